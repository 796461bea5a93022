/- Own texts of this claim, merged: Err, ErrB, ErrC, Ne, Ng, Cx, Nf, Cy, Tk, Qv, Qw, Qx, Sv, Sr, Dsn, Sg, Sh, Ta, Tb, Rg, Rh, We, Fine, MarkW, Open, OpenW, MarkK, SetC, Wd, Wf, Wg, Wh, Rj. -/

import Derived.Test.YtnclpojljgpadaaKFnWired3
namespace Go.Proofs.Ytnclpojljgpadaa
open Go.RowKit

theorem cut_even_ge (s : Bool) {n d q : Nat} (h : q * 2 ^ d ≤ n) : q ≤ Ieee.Toward.even.cut s n d := by
  unfold Ieee.Toward.cut
  simp only [Nat.shiftLeft_eq, Nat.one_mul]
  by_cases hd : d ≤ n.log2 + 2
  · rw [Nat.min_eq_left hd]
    have hlow : q ≤ n / 2 ^ d := (Nat.le_div_iff_mul_le (pow_pos' d)).2 h
    omega
  · have hlt : n < 2 ^ d := Nat.lt_of_lt_of_le (lt_log2 n) (Nat.pow_le_pow_right (by decide) (by omega))
    have : q = 0 := by
      rcases Nat.eq_zero_or_pos q with h0 | h0
      · exact h0
      · have := Nat.mul_le_mul_right (2 ^ d) h0
        rw [Nat.one_mul] at this
        omega
    rw [this]; exact Nat.zero_le _
/-- What is not less than the number of a word is written as no lesser word. -/
theorem nearest_ge (f : Ieee.Format) (s : Bool) {m r a b : Nat} {e : Int} (hr : r ≤ f.infRung) (he : e + a = f.leastPlace + b) (h : units f r * 2 ^ a ≤ m * 2 ^ b) : ∃ r', f.nearest s m e = f.word s r' ∧ r ≤ r' ∧ r' ≤ f.infRung := by
  unfold Ieee.Format.nearest
  have hb : 0 < f.binade := pow_pos' _
  have hbe : f.binade = 2 ^ f.fractionBits := rfl
  by_cases hm : m = 0
  · rw [if_pos hm]
    refine ⟨0, rfl, ?_, Nat.zero_le _⟩
    rw [hm, Nat.zero_mul] at h
    have hu : units f r = 0 := by
      have := Nat.le_of_lt_succ (Nat.lt_succ_of_le h)
      rcases Nat.eq_zero_or_pos (units f r) with h0 | h0
      · exact h0
      · have := Nat.mul_pos h0 (pow_pos' a); omega
    have := (units_zero f).1 hu
    omega
  rw [if_neg hm]
  refine ⟨_, rfl, Nat.le_min.2 ⟨?_, hr⟩, Nat.min_le_right _ _⟩
  obtain ⟨t, ht⟩ : ∃ t : Nat, max (e + (m.log2 : Int) - (f.fractionBits : Int)) f.leastPlace = f.leastPlace + (t : Int) :=
    ⟨(max (e + (m.log2 : Int) - (f.fractionBits : Int)) f.leastPlace - f.leastPlace).toNat, by omega⟩
  simp only [ht]
  have e1 : (f.leastPlace + (t : Int) - f.leastPlace).toNat = t := by omega
  rw [e1]
  have key : ∀ q : Nat, q * 2 ^ t * 2 ^ a ≤ m * 2 ^ b → q ≤ Ieee.Toward.even.cut s (m <<< (e - (f.leastPlace + t)).toNat) ((f.leastPlace + t) - e).toNat := by
    intro q hqt
    rw [Nat.mul_assoc, ← Nat.pow_add] at hqt
    rcases Nat.le_total (t + a) b with hle | hle
    · have g1 : (e - (f.leastPlace + t)).toNat = b - (t + a) := by omega
      have g2 : ((f.leastPlace + t) - e).toNat = 0 := by omega
      rw [g1, g2, cut_zero, shl_eq]
      have h9 : q * 2 ^ (t + a) ≤ m * 2 ^ (b - (t + a)) * 2 ^ (t + a) := by
        rw [Nat.mul_assoc m, ← Nat.pow_add, show b - (t + a) + (t + a) = b by omega]; exact hqt
      exact Nat.le_of_mul_le_mul_right h9 (pow_pos' _)
    · have g1 : (e - (f.leastPlace + t)).toNat = 0 := by omega
      have g2 : ((f.leastPlace + t) - e).toNat = t + a - b := by omega
      have : t + a = (t + a - b) + b := by omega
      rw [this, Nat.pow_add, ← Nat.mul_assoc] at hqt
      have hm' := Nat.le_of_mul_le_mul_right hqt (pow_pos' b)
      rw [g1, g2, shl_eq, Nat.pow_zero, Nat.mul_one]
      exact cut_even_ge s hm'
  have hfull : 1 ≤ t → f.binade ≤ Ieee.Toward.even.cut s (m <<< (e - (f.leastPlace + t)).toNat) ((f.leastPlace + t) - e).toNat := by
    intro h1
    refine key _ ?_
    have h2 := Nat.log2_self_le hm
    have h3 : f.fractionBits + t + a = b + m.log2 := by omega
    rw [hbe, ← Nat.pow_add, ← Nat.pow_add, h3, Nat.pow_add, Nat.mul_comm]
    exact Nat.mul_le_mul_right _ h2
  by_cases hrb : r < f.binade
  · have hur : units f r = r := by unfold units; rw [if_pos hrb]
    rcases Nat.eq_zero_or_pos t with h0 | h0
    · subst h0
      have := key r (by rw [Nat.pow_zero, Nat.mul_one, ← hur]; exact h)
      omega
    · have := hfull h0
      omega
  · have hq1 : 1 ≤ r / f.binade := (Nat.le_div_iff_mul_le hb).2 (by omega)
    have hmod := Nat.mod_lt r hb
    have hur : units f r = (f.binade + r % f.binade) * 2 ^ (r / f.binade - 1) := by unfold units; rw [if_neg hrb]
    have hqne : f.binade + r % f.binade ≠ 0 := by omega
    have hlg : (units f r).log2 = f.fractionBits + (r / f.binade - 1) := by
      rw [hur, log2_mul_pow hqne]
      congr 1
      rw [Nat.log2_eq_iff hqne]
      rw [Nat.pow_succ, ← hbe]
      omega
    have hu : units f r ≠ 0 := by rw [hur]; exact Nat.mul_ne_zero hqne (Nat.ne_of_gt (pow_pos' _))
    have hl : (units f r).log2 + a ≤ m.log2 + b := by
      have := log2_mono h
      rwa [log2_mul_pow hm b, log2_mul_pow hu a] at this
    have hT : r / f.binade - 1 ≤ t := by omega
    have e2 := Nat.div_add_mod r f.binade
    rw [Nat.mul_comm] at e2
    rcases Nat.lt_or_eq_of_le hT with hlt | heq
    · have h4 := hfull (by omega)
      have h5 : (r / f.binade) * f.binade ≤ t * f.binade := Nat.mul_le_mul_right _ (by omega)
      omega
    · have hk := key (f.binade + r % f.binade) (by rw [← heq, ← hur]; exact h)
      have h5 : (t + 1) * f.binade = r / f.binade * f.binade := by congr 1; omega
      rw [Nat.add_mul, Nat.one_mul] at h5
      omega
/-- n steps of a grid are a number of single precision. -/
theorem er_rep {n c : Nat} (h : n ≤ 2 ^ 24) (hc : c ≤ 200) : ∃ r, r < FloatKind.f32.format.infRung ∧ units FloatKind.f32.format r = n * 2 ^ c := by
  have hb : FloatKind.f32.format.binade = 2 ^ 23 := by decide
  have hi : FloatKind.f32.format.infRung = 255 * 2 ^ 23 := by decide
  by_cases h0 : n < 2 ^ 24
  · by_cases h1 : n = 0
    · subst h1
      exact ⟨0, by decide, by rw [(units_zero _).2 rfl, Nat.zero_mul]⟩
    have hl : n.log2 ≤ 23 := by have := (Nat.log2_lt h1).2 h0; omega
    have g1 := Nat.log2_self_le h1
    have g2 : n < 2 ^ (n.log2 + 1) := Nat.lt_log2_self
    -- shift left until 24 bits are there, or until the grid is the least one
    obtain ⟨d, hd, hdc⟩ : ∃ d, d ≤ c ∧ (d = c ∧ n * 2 ^ d < 2 ^ 24 ∨ 2 ^ 23 ≤ n * 2 ^ d ∧ n * 2 ^ d < 2 ^ 24) := by
      by_cases hcl : c ≤ 23 - n.log2
      · refine ⟨c, Nat.le_refl _, .inl ⟨rfl, ?_⟩⟩
        calc n * 2 ^ c < 2 ^ (n.log2 + 1) * 2 ^ c := Nat.mul_lt_mul_of_pos_right g2 (pow_pos' _)
          _ = 2 ^ (n.log2 + 1 + c) := by rw [← Nat.pow_add]
          _ ≤ 2 ^ 24 := Nat.pow_le_pow_right (by decide) (by omega)
      · refine ⟨23 - n.log2, by omega, .inr ⟨?_, ?_⟩⟩
        · calc 2 ^ 23 = 2 ^ n.log2 * 2 ^ (23 - n.log2) := by rw [← Nat.pow_add]; congr 1; omega
            _ ≤ _ := Nat.mul_le_mul_right _ g1
        · calc n * 2 ^ (23 - n.log2) < 2 ^ (n.log2 + 1) * 2 ^ (23 - n.log2) := Nat.mul_lt_mul_of_pos_right g2 (pow_pos' _)
            _ = 2 ^ 24 := by rw [← Nat.pow_add]; congr 1; omega
    have hmul : n * 2 ^ c = n * 2 ^ d * 2 ^ (c - d) := by rw [Nat.mul_assoc, ← Nat.pow_add]; congr 2; omega
    rw [hmul]
    generalize n * 2 ^ d = m at hdc
    by_cases hm : m < 2 ^ 23
    · have hd2 : d = c := by rcases hdc with h2 | h2 <;> omega
      refine ⟨m, by rw [hi]; omega, ?_⟩
      unfold units
      rw [hb, if_pos hm, hd2, Nat.sub_self, Nat.pow_zero, Nat.mul_one]
    · have hm2 : m < 2 ^ 24 := by rcases hdc with h2 | h2 <;> omega
      refine ⟨(c - d + 1) * 2 ^ 23 + (m - 2 ^ 23), by rw [hi]; omega, ?_⟩
      unfold units
      rw [hb, if_neg (by omega)]
      have e1 : ((c - d + 1) * 2 ^ 23 + (m - 2 ^ 23)) % 2 ^ 23 = m - 2 ^ 23 := by
        rw [Nat.add_comm, Nat.add_mul_mod_self_right, Nat.mod_eq_of_lt (by omega)]
      have e2 : ((c - d + 1) * 2 ^ 23 + (m - 2 ^ 23)) / 2 ^ 23 = c - d + 1 := by
        rw [Nat.add_comm, Nat.add_mul_div_right _ _ (by decide), Nat.div_eq_of_lt (by omega), Nat.zero_add]
      rw [e1, e2, show 2 ^ 23 + (m - 2 ^ 23) = m by omega, Nat.add_sub_cancel]
  · obtain rfl : n = 2 ^ 24 := by omega
    refine ⟨(c + 2) * 2 ^ 23, by rw [hi]; omega, ?_⟩
    unfold units
    rw [hb, if_neg (by omega), Nat.mul_mod_left, Nat.mul_div_cancel _ (by decide), Nat.add_zero, show c + 2 - 1 = 1 + c by omega, Nat.pow_add, ← Nat.mul_assoc]
/-- Written: not farther than a step of the grid. -/
theorem er_core (s : Bool) {m a b c : Nat} {e : Int} (hc : c ≤ 200) (he : e + a = FloatKind.f32.format.leastPlace + b) (h : m * 2 ^ b ≤ 2 ^ 24 * 2 ^ c * 2 ^ a) :
    ∃ r, FloatKind.f32.format.nearest s m e = FloatKind.f32.format.word s r ∧ r < FloatKind.f32.format.infRung ∧ units FloatKind.f32.format r * 2 ^ a ≤ m * 2 ^ b + 2 ^ c * 2 ^ a ∧ m * 2 ^ b ≤ units FloatKind.f32.format r * 2 ^ a + 2 ^ c * 2 ^ a := by
  have hp : 0 < 2 ^ c * 2 ^ a := Nat.mul_pos (pow_pos' _) (pow_pos' _)
  generalize hG : 2 ^ c * 2 ^ a = G at *
  rw [Nat.mul_assoc, hG] at h
  generalize hN : m * 2 ^ b = N at *
  have hn1 : N / G ≤ 2 ^ 24 := Nat.div_le_of_le_mul (by rw [Nat.mul_comm]; exact h)
  have hdm := Nat.div_add_mod N G
  have hml := Nat.mod_lt N hp
  obtain ⟨r1, a1, a2⟩ := er_rep hn1 hc
  obtain ⟨t1, b1, b2, b3⟩ := nearest_ge FloatKind.f32.format s (m := m) (r := r1) (a := a) (b := b) (Nat.le_of_lt a1) he (by rw [a2, Nat.mul_assoc, hG, hN, Nat.mul_comm]; omega)
  -- the upper one
  obtain ⟨r2, c1, c2, c3⟩ : ∃ r2, r2 < FloatKind.f32.format.infRung ∧ N ≤ units FloatKind.f32.format r2 * 2 ^ a ∧ units FloatKind.f32.format r2 * 2 ^ a ≤ N + G := by
    by_cases hz : N % G = 0
    · exact ⟨r1, a1, by rw [a2, Nat.mul_assoc, hG, Nat.mul_comm]; omega, by rw [a2, Nat.mul_assoc, hG, Nat.mul_comm]; omega⟩
    · have hn2 : N / G + 1 ≤ 2 ^ 24 := by
        rcases Nat.lt_or_ge (N / G) (2 ^ 24) with h1 | h1
        · exact h1
        · have : G * (2 ^ 24) ≤ G * (N / G) := Nat.mul_le_mul_left _ h1
          rw [Nat.mul_comm] at this
          omega
      obtain ⟨r2, d1, d2⟩ := er_rep hn2 hc
      have e2 : (N / G + 1) * G = G * (N / G) + G := by rw [Nat.add_mul, Nat.one_mul, Nat.mul_comm]
      exact ⟨r2, d1, by rw [d2, Nat.mul_assoc, hG, e2]; omega, by rw [d2, Nat.mul_assoc, hG, e2]; omega⟩
  obtain ⟨t2, d1, d2⟩ := nearest_le FloatKind.f32.format s (m := m) (r := r2) (a := a) (b := b) he (by rw [hN]; exact c2)
  have ht : t1 = t2 := by
    have h1 := rng_word .f32 s (r := t1) b3
    have h2 := rng_word .f32 s (r := t2) (by omega)
    rw [← h1.1, ← h2.1, ← b1, ← d1]
  subst ht
  have m1 := Nat.mul_le_mul_right (2 ^ a) (units_mono FloatKind.f32.format b2)
  have m2 := Nat.mul_le_mul_right (2 ^ a) (units_mono FloatKind.f32.format d2)
  rw [a2, Nat.mul_assoc, hG, Nat.mul_comm] at m1
  exact ⟨t1, b1, by omega, by omega, by omega⟩
end Go.Proofs.Ytnclpojljgpadaa


namespace Go.Proofs.Ytnclpojljgpadaa
open Go.RowKit

/-- A step: 2^-24 in units of the least place. One is 2^24 steps. -/
def UU : Int := ((2 ^ 125 : Nat) : Int)
theorem UU_pos : 0 < UU := by unfold UU; exact_mod_cast pow_pos' 125
theorem UU_big {k : Nat} {K : Int} (hK : ((2 ^ k : Nat) : Int) = K) : K * (16777216 * UU) = ((2 ^ 24 * 2 ^ (125 + k) : Nat) : Int) ∧ K * UU = ((2 ^ (125 + k) : Nat) : Int) := by
  have e : 2 ^ k * 2 ^ 125 = 2 ^ (125 + k) := by rw [← Nat.pow_add, Nat.add_comm]
  have e2 : K * UU = ((2 ^ (125 + k) : Nat) : Int) := by rw [← hK, UU, ← Int.natCast_mul, e]
  refine ⟨?_, e2⟩
  rw [Int.mul_left_comm, e2, Int.natCast_mul]
  congr 1
theorem BB_is : (16777216 : Int) * UU = ((2 ^ 149 : Nat) : Int) := by
  have := (UU_big (k := 24) (K := 16777216) (by decide)).2
  rw [this]
/-- The word x is X units. -/
def apx (x : Nat) (X : Int) : Prop := x < 2 ^ FloatKind.f32.format.width ∧ rng FloatKind.f32.format x < FloatKind.f32.format.infRung ∧ sval FloatKind.f32.format x = X
section
variable {x y : Nat} {X Y : Int}
theorem er_word (s : Bool) {r : Nat} (hr : r < FloatKind.f32.format.infRung) : apx (FloatKind.f32.format.word s r) (if s then -(units FloatKind.f32.format r : Int) else (units FloatKind.f32.format r : Int)) := by
  obtain ⟨w1, w2⟩ := rng_word .f32 s (Nat.le_of_lt hr)
  refine ⟨?_, by rw [w1]; exact hr, ?_⟩
  · have hw : FloatKind.f32.format.infRung < FloatKind.f32.format.signWeight := by decide
    rw [width_pos]
    unfold Ieee.Format.word
    split <;> omega
  · unfold sval
    rw [w2, w1]
theorem apx_dy {v : Int} (h : dy .f32 x v) : apx x (v * 2 ^ dyU .f32) := ⟨h.1, h.2.1, h.2.2⟩
theorem apx.num (h : apx x X) : fnan .f32 x = false := fnan_fin h.2.1
theorem apx.units (h : apx x X) : units FloatKind.f32.format (rng FloatKind.f32.format x) = X.natAbs := by
  have := congrArg Int.natAbs h.2.2
  unfold sval at this
  split at this <;> simpa using this
theorem apx.sgn (h : apx x X) : (sgn FloatKind.f32.format x = true → X ≤ 0) ∧ (sgn FloatKind.f32.format x = false → 0 ≤ X) := by
  have := h.2.2
  unfold sval at this
  constructor <;> intro hs <;> rw [hs] at this <;> simp at this <;> omega
theorem er_sign {s : Bool} {N u c : Nat} {V : Int} (hN : V.natAbs = N) (h1 : s = true → V ≤ 0) (h2 : s = false → 0 ≤ V) (h3 : u ≤ N + c) (h4 : N ≤ u + c) :
    V - (c : Int) ≤ (if s then -(u : Int) else (u : Int)) ∧ (if s then -(u : Int) else (u : Int)) ≤ V + (c : Int) := by
  cases s
  · have := h2 rfl
    simp only [Bool.false_eq_true, if_false]
    omega
  · have := h1 rfl
    simp only [if_true]
    omega
theorem er_sum (t : Bool) (k : Nat) {K : Int} (hK : ((2 ^ k : Nat) : Int) = K) (hk : k ≤ 70) (hx : apx x X) (hy : apx y Y) (h1 : -(K * (16777216 * UU)) ≤ X + (if t then -Y else Y)) (h2 : X + (if t then -Y else Y) ≤ K * (16777216 * UU)) :
    ∃ Z, apx (((((FloatKind.f32.format.read x).sum (if t then (FloatKind.f32.format.read y).opposite else FloatKind.f32.format.read y)).map FloatKind.f32.format.write).getD (qn .f32))) Z ∧ X + (if t then -Y else Y) - K * UU ≤ Z ∧ Z ≤ X + (if t then -Y else Y) + K * UU := by
  obtain ⟨s, M, q, e1, e2, e3, e4⟩ := sum_units hx.2.1 hy.2.1 t
  rw [hx.2.2, hy.2.2] at e2 e3 e4
  generalize X + (if t then -Y else Y) = V at *
  obtain ⟨g1, g2⟩ := UU_big hK
  rw [g1] at h1 h2
  rw [g2]
  have hn : M * 2 ^ q ≤ 2 ^ 24 * 2 ^ (125 + k) * 2 ^ 0 := by rw [e2, Nat.pow_zero, Nat.mul_one]; omega
  obtain ⟨r, r1, r2, r3, r4⟩ := er_core s (a := 0) (b := q) (e := FloatKind.f32.format.leastPlace + (q : Int)) (by omega) (by omega) hn
  rw [Nat.pow_zero, Nat.mul_one, Nat.mul_one, e2] at r3 r4
  have hw : (((FloatKind.f32.format.read x).sum (if t then (FloatKind.f32.format.read y).opposite else FloatKind.f32.format.read y)).map FloatKind.f32.format.write).getD (qn .f32) = FloatKind.f32.format.word s r := by
    rw [e1]; exact r1
  rw [hw]
  exact ⟨_, er_word s r2, er_sign rfl e3 e4 r3 r4⟩
theorem er_add (k : Nat) {K : Int} (hK : ((2 ^ k : Nat) : Int) = K) (hk : k ≤ 70) (hx : apx x X) (hy : apx y Y) (h1 : -(K * (16777216 * UU)) ≤ X + Y) (h2 : X + Y ≤ K * (16777216 * UU)) : ∃ Z, apx (fop .add .f32 x y) Z ∧ X + Y - K * UU ≤ Z ∧ Z ≤ X + Y + K * UU :=
  er_sum false k hK hk hx hy h1 h2
theorem er_sub (k : Nat) {K : Int} (hK : ((2 ^ k : Nat) : Int) = K) (hk : k ≤ 70) (hx : apx x X) (hy : apx y Y) (h1 : -(K * (16777216 * UU)) ≤ X - Y) (h2 : X - Y ≤ K * (16777216 * UU)) : ∃ Z, apx (fop .sub .f32 x y) Z ∧ X - Y - K * UU ≤ Z ∧ Z ≤ X - Y + K * UU := by
  obtain ⟨Z, z1, z2, z3⟩ := er_sum true k hK hk hx hy (by simp only [if_true]; omega) (by simp only [if_true]; omega)
  simp only [if_true] at z2 z3
  exact ⟨Z, z1, by omega, by omega⟩
theorem sgn_xor (hx : apx x X) (hy : apx y Y) : ((sgn FloatKind.f32.format x ^^ sgn FloatKind.f32.format y) = true → X * Y ≤ 0) ∧ ((sgn FloatKind.f32.format x ^^ sgn FloatKind.f32.format y) = false → 0 ≤ X * Y) := by
  have sa := hx.sgn
  have sb := hy.sgn
  cases hsx : sgn FloatKind.f32.format x <;> cases hsy : sgn FloatKind.f32.format y
  · exact ⟨by simp, fun _ => Int.mul_nonneg (sa.2 hsx) (sb.2 hsy)⟩
  · exact ⟨fun _ => Int.mul_nonpos_of_nonneg_of_nonpos (sa.2 hsx) (sb.1 hsy), by simp⟩
  · exact ⟨fun _ => Int.mul_nonpos_of_nonpos_of_nonneg (sa.1 hsx) (sb.2 hsy), by simp⟩
  · exact ⟨by simp, fun _ => Int.mul_nonneg_of_nonpos_of_nonpos (sa.1 hsx) (sb.1 hsy)⟩
theorem lp32 : FloatKind.f32.format.leastPlace = -149 := by decide
theorem er_mul (k : Nat) {K : Int} (hK : ((2 ^ k : Nat) : Int) = K) (hk : k ≤ 70) (hx : apx x X) (hy : apx y Y) (h1 : -(K * (16777216 * UU) * (16777216 * UU)) ≤ X * Y) (h2 : X * Y ≤ K * (16777216 * UU) * (16777216 * UU)) :
    ∃ Z, apx (fop .mul .f32 x y) Z ∧ X * Y - K * UU * (16777216 * UU) ≤ Z * (16777216 * UU) ∧ Z * (16777216 * UU) ≤ X * Y + K * UU * (16777216 * UU) := by
  obtain ⟨m, e, a1, a2⟩ := read_number FloatKind.f32.format hx.2.1
  obtain ⟨n, d, b1, b2⟩ := read_number FloatKind.f32.format hy.2.1
  rw [hx.units] at a2
  rw [hy.units] at b2
  obtain ⟨g1, g2⟩ := UU_big hK
  have g3 := BB_is
  rw [g1] at h1 h2
  rw [g2]
  rw [g3] at h1 h2 ⊢
  rw [← Int.natCast_mul] at h1 h2
  have hxy : (X * Y).natAbs = m * n * 2 ^ (e + d) := by rw [Int.natAbs_mul, ← a2, ← b2, Nat.pow_add]; simp only [Nat.mul_assoc, Nat.mul_left_comm]
  have hn : m * n * 2 ^ (e + d) ≤ 2 ^ 24 * 2 ^ (125 + k) * 2 ^ 149 := by rw [← hxy]; omega
  obtain ⟨r, r1, r2, r3, r4⟩ := er_core (sgn FloatKind.f32.format x ^^ sgn FloatKind.f32.format y) (a := 149) (b := e + d) (e := FloatKind.f32.format.leastPlace + (e : Int) + (FloatKind.f32.format.leastPlace + (d : Int))) (by omega) (by rw [lp32]; omega) hn
  have hw : fop .mul .f32 x y = FloatKind.f32.format.word (sgn FloatKind.f32.format x ^^ sgn FloatKind.f32.format y) r := by
    unfold fop floatBits Ieee.Format.mul
    simp only [a1, b1, Ieee.Datum.product, Option.map_some, Option.getD_some]
    exact r1
  rw [hw]
  refine ⟨_, er_word _ r2, ?_⟩
  obtain ⟨s1, s2⟩ := sgn_xor hx hy
  have := er_sign (V := X * Y) hxy s1 s2 r3 r4
  have e9 : (if (sgn FloatKind.f32.format x ^^ sgn FloatKind.f32.format y) = true then -(units FloatKind.f32.format r : Int) else (units FloatKind.f32.format r : Int)) * ((2 ^ 149 : Nat) : Int) =
      (if (sgn FloatKind.f32.format x ^^ sgn FloatKind.f32.format y) = true then -((units FloatKind.f32.format r * 2 ^ 149 : Nat) : Int) else ((units FloatKind.f32.format r * 2 ^ 149 : Nat) : Int)) := by
    split <;> simp only [Int.natCast_mul, Int.neg_mul]
  rw [e9, ← Int.natCast_mul]
  exact this
end
end Go.Proofs.Ytnclpojljgpadaa


namespace Go.Proofs.Ytnclpojljgpadaa
open Go.RowKit

set_option maxRecDepth 20000
set_option linter.unusedSimpArgs false
theorem quo_sticky {D n : Nat} (hn : 0 < n) : n * (2 * (D / n) + (D % n != 0).toNat) ≤ 2 * D + n ∧ 2 * D ≤ n * (2 * (D / n) + (D % n != 0).toNat) + n := by
  have h1 := Nat.div_add_mod D n
  have h2 := Nat.mod_lt D hn
  rw [Nat.mul_add, Nat.mul_left_comm]
  by_cases h : D % n = 0
  · rw [h]; simp; omega
  · have : (D % n != 0) = true := by simpa using h
    rw [this]
    simp only [Bool.toNat_true, Nat.mul_one]
    omega
theorem quo_aux {p1 p2 p3 p4 : Nat} (h3 : p1 ≤ 2 * p2 + p3) (h : p2 ≤ p4 * 2 ^ 23) (h2 : p3 ≤ p4) : p1 ≤ p4 * (2 * 2 ^ 24) := by omega
theorem er_quo {x y : Nat} {X Y : Int} (k : Nat) {K : Int} (hK : ((2 ^ k : Nat) : Int) = K) (hk : k ≤ 70) (hx : apx x X) (hy : apx y Y) (hY : 0 < Y) (h1 : -(K * Y) ≤ 2 * X) (h2 : 2 * X ≤ K * Y) :
    ∃ Z, apx (fop .quo .f32 x y) Z ∧ X * (16777216 * UU) - 2 * (K * UU) * Y ≤ Z * Y ∧ Z * Y ≤ X * (16777216 * UU) + 2 * (K * UU) * Y := by
  obtain ⟨m, e, a1, a2⟩ := read_number FloatKind.f32.format hx.2.1
  obtain ⟨n, d, b1, b2⟩ := read_number FloatKind.f32.format hy.2.1
  obtain ⟨s1, s2⟩ := sgn_xor hx hy
  rw [hx.units] at a2
  rw [hy.units] at b2
  rw [(UU_big hK).2, BB_is]
  have hn : 0 < n := by
    rcases Nat.eq_zero_or_pos n with h0 | h0
    · rw [h0, Nat.zero_mul] at b2; omega
    · exact h0
  obtain ⟨S, rfl⟩ : ∃ S : Nat, Y = (S : Int) := ⟨Y.toNat, by omega⟩
  have hS : (((S : Nat) : Int)).natAbs = S := Int.natAbs_natCast S
  rw [hS] at b2
  generalize hA : X.natAbs = A at a2
  have hAS : 2 * A ≤ 2 ^ k * S := by
    rw [← hK, ← Int.natCast_mul] at h1 h2
    omega
  generalize hM : 25 + n.log2 - m.log2 = more
  -- the sticky bit does not matter much
  have hnm : m ≠ 0 → n * 2 ^ 24 ≤ m * 2 ^ more := by
    intro h0
    have g1 := Nat.log2_self_le h0
    have g2 : n < 2 ^ (n.log2 + 1) := Nat.lt_log2_self
    calc n * 2 ^ 24 ≤ 2 ^ (n.log2 + 1) * 2 ^ 24 := Nat.mul_le_mul_right _ (Nat.le_of_lt g2)
      _ = 2 ^ (n.log2 + 25) := by rw [← Nat.pow_add]
      _ ≤ 2 ^ (m.log2 + more) := Nat.pow_le_pow_right (by decide) (by omega)
      _ = 2 ^ m.log2 * 2 ^ more := by rw [← Nat.pow_add]
      _ ≤ _ := Nat.mul_le_mul_right _ g1
  obtain ⟨q1, q2⟩ := quo_sticky (D := m * 2 ^ more) hn
  generalize hMM : 2 * ((m * 2 ^ more) / n) + ((m * 2 ^ more) % n != 0).toNat = M at q1 q2
  -- in common units
  have hb : m * 2 ^ more * 2 ^ (e + 149) = A * 2 ^ more * 2 ^ 149 := by
    rw [← a2, Nat.pow_add]; simp only [Nat.mul_assoc, Nat.mul_comm, Nat.mul_left_comm]
  have ha : n * 2 ^ (d + more + 1) = S * 2 ^ more * 2 := by
    rw [← b2, Nat.pow_succ, Nat.pow_add]; simp only [Nat.mul_assoc]
  have hAS2 : A * 2 ^ more * 2 ^ 149 ≤ S * 2 ^ more * (2 ^ 23 * 2 ^ (125 + k)) := by
    have e3 : 2 ^ 23 * 2 ^ (125 + k) = 2 ^ k * 2 ^ 148 := by rw [← Nat.pow_add, ← Nat.pow_add, show 23 + (125 + k) = k + 148 by omega]
    have e4' : ∀ c : Nat, 2 ^ (c + 1) = 2 * 2 ^ c := fun c => by rw [Nat.pow_succ, Nat.mul_comm]
    have e4 : (2 : Nat) ^ 149 = 2 * 2 ^ 148 := e4' 148
    rw [e3, e4]
    generalize 2 ^ 148 = W at *
    generalize 2 ^ more = V
    calc A * V * (2 * W) = 2 * A * (V * W) := by simp only [Nat.mul_assoc, Nat.mul_comm, Nat.mul_left_comm]
      _ ≤ 2 ^ k * S * (V * W) := Nat.mul_le_mul_right _ hAS
      _ = _ := by simp only [Nat.mul_assoc, Nat.mul_comm, Nat.mul_left_comm]
  have hnb : n * 2 ^ (e + 149) ≤ S * 2 ^ more * 2 ^ (125 + k) ∨ M = 0 := by
    by_cases h0 : m = 0
    · right
      rw [← hMM, h0]; simp
    · left
      have h3 := Nat.mul_le_mul_right (2 ^ (e + 149)) (hnm h0)
      rw [hb] at h3
      have h4 := Nat.le_trans h3 hAS2
      have e5 : S * 2 ^ more * (2 ^ 23 * 2 ^ (125 + k)) = S * 2 ^ more * 2 ^ (125 + k) * 2 ^ 23 := by simp only [Nat.mul_assoc, Nat.mul_comm, Nat.mul_left_comm]
      have e6 : n * 2 ^ 24 * 2 ^ (e + 149) = n * 2 ^ (e + 149) * 2 ^ 24 := by simp only [Nat.mul_assoc, Nat.mul_left_comm, Nat.mul_comm]
      rw [e5, e6] at h4
      generalize n * 2 ^ (e + 149) = p at *
      generalize S * 2 ^ more * 2 ^ (125 + k) = q at *
      omega
  have hcore : M * 2 ^ (e + 149) ≤ 2 ^ 24 * 2 ^ (125 + k) * 2 ^ (d + more + 1) := by
    rcases hnb with hnb | h0
    · refine Nat.le_of_mul_le_mul_left ?_ hn
      have h3 := Nat.mul_le_mul_right (2 ^ (e + 149)) q1
      rw [Nat.add_mul, Nat.mul_assoc 2, hb, Nat.mul_assoc n M] at h3
      have e5 : n * (2 ^ 24 * 2 ^ (125 + k) * 2 ^ (d + more + 1)) = S * 2 ^ more * 2 ^ (125 + k) * (2 * 2 ^ 24) := by
        rw [Nat.mul_left_comm, ha]; simp only [Nat.mul_assoc, Nat.mul_left_comm, Nat.mul_comm]
      have e6 : S * 2 ^ more * (2 ^ 23 * 2 ^ (125 + k)) = S * 2 ^ more * 2 ^ (125 + k) * 2 ^ 23 := by simp only [Nat.mul_assoc, Nat.mul_comm, Nat.mul_left_comm]
      rw [e5]
      rw [e6] at hAS2
      exact quo_aux h3 hAS2 hnb
    · rw [h0, Nat.zero_mul]; exact Nat.zero_le _
  obtain ⟨r, r1, r2, r3, r4⟩ := er_core (sgn FloatKind.f32.format x ^^ sgn FloatKind.f32.format y) (m := M) (a := d + more + 1) (b := e + 149) (c := 125 + k) (e := FloatKind.f32.format.leastPlace + (e : Int) - (FloatKind.f32.format.leastPlace + (d : Int)) - more - 1) (by omega) (by rw [lp32]; omega) hcore
  have hw : fop .quo .f32 x y = FloatKind.f32.format.word (sgn FloatKind.f32.format x ^^ sgn FloatKind.f32.format y) r := by
    have e0 : fop .quo .f32 x y = ((((FloatKind.f32.format.read x).quotient 25 (FloatKind.f32.format.read y)).map FloatKind.f32.format.write).getD (qn .f32)) := rfl
    rw [e0, a1, b1]
    simp only [Ieee.Datum.quotient, if_neg (Nat.ne_of_gt hn), Option.map_some, Option.getD_some, hM]
    rw [← r1, ← hMM, shl_eq]
    rfl
  rw [hw]
  refine ⟨_, er_word _ r2, ?_⟩
  generalize units FloatKind.f32.format r = u at *
  have key : u * S ≤ A * 2 ^ 149 + 2 * 2 ^ (125 + k) * S ∧ A * 2 ^ 149 ≤ u * S + 2 * 2 ^ (125 + k) * S := by
    have t3 := Nat.mul_le_mul_left n r3
    have t4 := Nat.mul_le_mul_left n r4
    have e5 : n * (u * 2 ^ (d + more + 1)) = u * S * (2 ^ more * 2) := by rw [Nat.mul_left_comm, ha]; simp only [Nat.mul_assoc]
    have e6 : n * (2 ^ (125 + k) * 2 ^ (d + more + 1)) = 2 ^ (125 + k) * S * (2 ^ more * 2) := by rw [Nat.mul_left_comm, ha]; simp only [Nat.mul_assoc]
    rw [Nat.mul_add, e5, e6] at t3 t4
    have u1 := Nat.mul_le_mul_right (2 ^ (e + 149)) q1
    have u2 := Nat.mul_le_mul_right (2 ^ (e + 149)) q2
    rw [Nat.add_mul, Nat.mul_assoc 2, hb, Nat.mul_assoc n M] at u1 u2
    have e7 : A * 2 ^ more * 2 ^ 149 = A * 2 ^ 149 * 2 ^ more := by simp only [Nat.mul_assoc, Nat.mul_comm, Nat.mul_left_comm]
    rw [e7] at u1 u2
    have hP : 0 < 2 ^ more * 2 := Nat.mul_pos (pow_pos' _) (by decide)
    have e8 : S * 2 ^ more * 2 ^ (125 + k) = 2 ^ (125 + k) * S * 2 ^ more := by simp only [Nat.mul_assoc, Nat.mul_comm, Nat.mul_left_comm]
    have z1 : ∀ v : Nat, v * (2 ^ more * 2) = 2 * (v * 2 ^ more) := by intro v; simp only [Nat.mul_assoc, Nat.mul_comm, Nat.mul_left_comm]
    have z2 : 2 * 2 ^ (125 + k) * S * (2 ^ more * 2) = 4 * (2 ^ (125 + k) * S * 2 ^ more) := by
      rw [z1, Nat.mul_assoc 2, Nat.mul_assoc 2]; omega
    rcases hnb with hnb | h0
    · rw [e8] at hnb
      refine ⟨Nat.le_of_mul_le_mul_right ?_ hP, Nat.le_of_mul_le_mul_right ?_ hP⟩
      · rw [Nat.add_mul, z2, z1 (A * 2 ^ 149), z1 (u * S)]
        rw [z1 (u * S), z1 (2 ^ (125 + k) * S)] at t3
        generalize u * S * 2 ^ more = v1 at *
        generalize n * (M * 2 ^ (e + 149)) = v2 at *
        generalize 2 ^ (125 + k) * S * 2 ^ more = v3 at *
        generalize A * 2 ^ 149 * 2 ^ more = v4 at *
        generalize n * 2 ^ (e + 149) = v5 at *
        omega
      · rw [Nat.add_mul, z2, z1 (A * 2 ^ 149), z1 (u * S)]
        rw [z1 (u * S), z1 (2 ^ (125 + k) * S)] at t4
        generalize u * S * 2 ^ more = v1 at *
        generalize n * (M * 2 ^ (e + 149)) = v2 at *
        generalize 2 ^ (125 + k) * S * 2 ^ more = v3 at *
        generalize A * 2 ^ 149 * 2 ^ more = v4 at *
        generalize n * 2 ^ (e + 149) = v5 at *
        omega
    · have hA0 : A = 0 := by
        by_cases hm : m = 0
        · rw [← a2, hm, Nat.zero_mul]
        · exfalso
          have g1 := hnm hm
          rw [h0, Nat.mul_zero] at q2
          omega
      rw [h0, Nat.zero_mul, Nat.mul_zero, Nat.zero_add] at t3
      rw [hA0, Nat.zero_mul, Nat.zero_add]
      refine ⟨Nat.le_of_mul_le_mul_right (Nat.le_trans t3 ?_) hP, Nat.zero_le _⟩
      refine Nat.mul_le_mul_right _ ?_
      rw [Nat.mul_assoc]
      omega
  have hXB : (X * ((2 ^ 149 : Nat) : Int)).natAbs = A * 2 ^ 149 := by rw [Int.natAbs_mul, Int.natAbs_natCast, hA]
  have hB : (0 : Int) < ((2 ^ 149 : Nat) : Int) := by exact_mod_cast pow_pos' 149
  have t1 : (sgn FloatKind.f32.format x ^^ sgn FloatKind.f32.format y) = true → X * ((2 ^ 149 : Nat) : Int) ≤ 0 := fun h => by
    have := s1 h
    have : X ≤ 0 := Int.le_of_mul_le_mul_right (by rw [Int.zero_mul]; exact this) hY
    exact Int.mul_nonpos_of_nonpos_of_nonneg this (Int.le_of_lt hB)
  have t2 : (sgn FloatKind.f32.format x ^^ sgn FloatKind.f32.format y) = false → 0 ≤ X * ((2 ^ 149 : Nat) : Int) := fun h => by
    have := s2 h
    have : 0 ≤ X := Int.le_of_mul_le_mul_right (by rw [Int.zero_mul]; exact this) hY
    exact Int.mul_nonneg this (Int.le_of_lt hB)
  have := er_sign (V := X * ((2 ^ 149 : Nat) : Int)) hXB t1 t2 key.1 key.2
  have e9 : (if (sgn FloatKind.f32.format x ^^ sgn FloatKind.f32.format y) = true then -(u : Int) else (u : Int)) * (S : Int) =
      (if (sgn FloatKind.f32.format x ^^ sgn FloatKind.f32.format y) = true then -((u * S : Nat) : Int) else ((u * S : Nat) : Int)) := by
    split <;> simp only [Int.natCast_mul, Int.neg_mul]
  have e10 : 2 * ((2 ^ (125 + k) : Nat) : Int) * (S : Int) = ((2 * 2 ^ (125 + k) * S : Nat) : Int) := by simp only [Int.natCast_mul]; rfl
  rw [e9, e10]
  exact this
end Go.Proofs.Ytnclpojljgpadaa


namespace Go.Proofs.Ytnclpojljgpadaa
open Go.RowKit

/-- n steps of a grid are a number of double precision. -/
theorem er_rep64 {n c : Nat} (h : n ≤ 2 ^ 53) (hc : c ≤ 1900) : ∃ r, r < FloatKind.f64.format.infRung ∧ units FloatKind.f64.format r = n * 2 ^ c := by
  have hb : FloatKind.f64.format.binade = 2 ^ 52 := by decide
  have hi : FloatKind.f64.format.infRung = 2047 * 2 ^ 52 := by decide
  by_cases h0 : n < 2 ^ 53
  · by_cases h1 : n = 0
    · subst h1
      exact ⟨0, by decide, by rw [(units_zero _).2 rfl, Nat.zero_mul]⟩
    have hl : n.log2 ≤ 52 := by have := (Nat.log2_lt h1).2 h0; omega
    have g1 := Nat.log2_self_le h1
    have g2 : n < 2 ^ (n.log2 + 1) := Nat.lt_log2_self
    -- shift left until 24 bits are there, or until the grid is the least one
    obtain ⟨d, hd, hdc⟩ : ∃ d, d ≤ c ∧ (d = c ∧ n * 2 ^ d < 2 ^ 53 ∨ 2 ^ 52 ≤ n * 2 ^ d ∧ n * 2 ^ d < 2 ^ 53) := by
      by_cases hcl : c ≤ 52 - n.log2
      · refine ⟨c, Nat.le_refl _, .inl ⟨rfl, ?_⟩⟩
        calc n * 2 ^ c < 2 ^ (n.log2 + 1) * 2 ^ c := Nat.mul_lt_mul_of_pos_right g2 (pow_pos' _)
          _ = 2 ^ (n.log2 + 1 + c) := by rw [← Nat.pow_add]
          _ ≤ 2 ^ 53 := Nat.pow_le_pow_right (by decide) (by omega)
      · refine ⟨52 - n.log2, by omega, .inr ⟨?_, ?_⟩⟩
        · calc 2 ^ 52 = 2 ^ n.log2 * 2 ^ (52 - n.log2) := by rw [← Nat.pow_add]; congr 1; omega
            _ ≤ _ := Nat.mul_le_mul_right _ g1
        · calc n * 2 ^ (52 - n.log2) < 2 ^ (n.log2 + 1) * 2 ^ (52 - n.log2) := Nat.mul_lt_mul_of_pos_right g2 (pow_pos' _)
            _ = 2 ^ 53 := by rw [← Nat.pow_add]; congr 1; omega
    have hmul : n * 2 ^ c = n * 2 ^ d * 2 ^ (c - d) := by rw [Nat.mul_assoc, ← Nat.pow_add]; congr 2; omega
    rw [hmul]
    generalize n * 2 ^ d = m at hdc
    by_cases hm : m < 2 ^ 52
    · have hd2 : d = c := by rcases hdc with h2 | h2 <;> omega
      refine ⟨m, by rw [hi]; omega, ?_⟩
      unfold units
      rw [hb, if_pos hm, hd2, Nat.sub_self, Nat.pow_zero, Nat.mul_one]
    · have hm2 : m < 2 ^ 53 := by rcases hdc with h2 | h2 <;> omega
      refine ⟨(c - d + 1) * 2 ^ 52 + (m - 2 ^ 52), by rw [hi]; omega, ?_⟩
      unfold units
      rw [hb, if_neg (by omega)]
      have e1 : ((c - d + 1) * 2 ^ 52 + (m - 2 ^ 52)) % 2 ^ 52 = m - 2 ^ 52 := by
        rw [Nat.add_comm, Nat.add_mul_mod_self_right, Nat.mod_eq_of_lt (by omega)]
      have e2 : ((c - d + 1) * 2 ^ 52 + (m - 2 ^ 52)) / 2 ^ 52 = c - d + 1 := by
        rw [Nat.add_comm, Nat.add_mul_div_right _ _ (by decide), Nat.div_eq_of_lt (by omega), Nat.zero_add]
      rw [e1, e2, show 2 ^ 52 + (m - 2 ^ 52) = m by omega, Nat.add_sub_cancel]
  · obtain rfl : n = 2 ^ 53 := by omega
    refine ⟨(c + 2) * 2 ^ 52, by rw [hi]; omega, ?_⟩
    unfold units
    rw [hb, if_neg (by omega), Nat.mul_mod_left, Nat.mul_div_cancel _ (by decide), Nat.add_zero, show c + 2 - 1 = 1 + c by omega, Nat.pow_add, ← Nat.mul_assoc]

theorem lp64 : FloatKind.f64.format.leastPlace = -1074 := by decide
/-- Narrowed: not farther than a step of the grid. -/
theorem er_narrow {y : Nat} {V : Int} {c : Nat} (hc : c ≤ 200) (hy : rng FloatKind.f64.format y < FloatKind.f64.format.infRung) (hV : sval FloatKind.f64.format y = V) (h : V.natAbs ≤ 2 ^ 24 * 2 ^ c * 2 ^ 925) :
    fover .f64 .f32 y = false ∧ ∃ Z, apx (fconv .f64 .f32 y) Z ∧ V - ((2 ^ c * 2 ^ 925 : Nat) : Int) ≤ Z * ((2 ^ 925 : Nat) : Int) ∧ Z * ((2 ^ 925 : Nat) : Int) ≤ V + ((2 ^ c * 2 ^ 925 : Nat) : Int) := by
  obtain ⟨m, e, a1, a2⟩ := read_number FloatKind.f64.format hy
  have hu : units FloatKind.f64.format (rng FloatKind.f64.format y) = V.natAbs := by
    have := congrArg Int.natAbs hV
    unfold sval at this
    split at this <;> simpa using this
  have hs : (sgn FloatKind.f64.format y = true → V ≤ 0) ∧ (sgn FloatKind.f64.format y = false → 0 ≤ V) := by
    have := hV
    unfold sval at this
    constructor <;> intro hs <;> rw [hs] at this <;> simp at this <;> omega
  rw [hu] at a2
  obtain ⟨r, r1, r2, r3, r4⟩ := er_core (sgn FloatKind.f64.format y) (m := m) (a := 925) (b := e) (c := c) (e := FloatKind.f64.format.leastPlace + (e : Int)) hc (by rw [lp64, lp32]; omega) (by rw [a2]; exact h)
  rw [a2] at r3 r4
  have hd : FloatKind.f64.decode y = .number (sgn FloatKind.f64.format y) m (FloatKind.f64.format.leastPlace + (e : Int)) := a1
  have he : FloatKind.f32.encode (.number (sgn FloatKind.f64.format y) m (FloatKind.f64.format.leastPlace + (e : Int))) = FloatKind.f32.format.word (sgn FloatKind.f64.format y) r := r1
  have hw := er_word (sgn FloatKind.f64.format y) r2
  refine ⟨?_, (if sgn FloatKind.f64.format y then -(units FloatKind.f32.format r : Int) else (units FloatKind.f32.format r : Int)), ?_, ?_⟩
  · unfold fover
    rw [if_neg (by decide), hd]
    simp only [he]
    obtain ⟨m', e', b1, _⟩ := read_number FloatKind.f32.format hw.2.1
    have b2 : FloatKind.f32.decode (FloatKind.f32.format.word (sgn FloatKind.f64.format y) r) = _ := b1
    rw [b2]; rfl
  · unfold fconv
    rw [if_neg (by decide), hd]
    simp only [he]
    exact hw
  · have := er_sign (V := V) rfl hs.1 hs.2 r3 r4
    have e9 : (if sgn FloatKind.f64.format y = true then -(units FloatKind.f32.format r : Int) else (units FloatKind.f32.format r : Int)) * ((2 ^ 925 : Nat) : Int) =
        (if sgn FloatKind.f64.format y = true then -((units FloatKind.f32.format r * 2 ^ 925 : Nat) : Int) else ((units FloatKind.f32.format r * 2 ^ 925 : Nat) : Int)) := by
      split <;> simp only [Int.natCast_mul, Int.neg_mul]
    rw [e9]
    exact this
theorem pow2_is (n : Nat) : pow2 n = 2 ^ n := rfl
/-- The double word x is V units of the least place of doubles. -/
def apd (x : Nat) (V : Int) : Prop := rng FloatKind.f64.format x < FloatKind.f64.format.infRung ∧ sval FloatKind.f64.format x = V
theorem apd_up {x : Nat} {X : Int} (h : apx x X) : apd (up x) (X * ((2 ^ 925 : Nat) : Int)) := by
  obtain ⟨u1, u2, u3⟩ := up_number (x := x) h.2.1
  refine ⟨u2, ?_⟩
  have hk : upK = 2 ^ 925 := (show upK = pow2 925 from rfl).trans (pow2_is 925)
  have e : sval FloatKind.f64.format (up x) = if sgn FloatKind.f32.format x then -((units FloatKind.f32.format (rng FloatKind.f32.format x) * upK : Nat) : Int) else ((units FloatKind.f32.format (rng FloatKind.f32.format x) * upK : Nat) : Int) := by
    show sval Ieee.double (up x) = _
    unfold sval
    rw [u1, u3]; rfl
  rw [e, ← h.2.2, hk]
  unfold sval
  split <;> simp only [Int.natCast_mul, Int.neg_mul]
theorem apd_word (s : Bool) {r : Nat} (hr : r < FloatKind.f64.format.infRung) : apd (FloatKind.f64.format.word s r) (if s then -(units FloatKind.f64.format r : Int) else (units FloatKind.f64.format r : Int)) := by
  obtain ⟨w1, w2⟩ := rng_word .f64 s (Nat.le_of_lt hr)
  refine ⟨by rw [w1]; exact hr, ?_⟩
  unfold sval
  rw [w2, w1]
theorem apd.units {x : Nat} {V : Int} (h : apd x V) : units FloatKind.f64.format (rng FloatKind.f64.format x) = V.natAbs := by
  have := congrArg Int.natAbs h.2
  unfold sval at this
  split at this <;> simpa using this
/-- A zero that is added or taken away changes nothing; nothing less a number, neither. -/
theorem apd_sum0 (t : Bool) {x y : Nat} {V U : Int} (hx : apd x V) (hy : apd y U) {r : Nat} (hr : r < FloatKind.f64.format.infRung) (hu : units FloatKind.f64.format r = (V + (if t then -U else U)).natAbs) :
    apd (((((FloatKind.f64.format.read x).sum (if t then (FloatKind.f64.format.read y).opposite else FloatKind.f64.format.read y)).map FloatKind.f64.format.write).getD (qn .f64))) (V + (if t then -U else U)) := by
  obtain ⟨s, M, q, e1, e2, e3, e4⟩ := sum_units (k := .f64) hx.1 hy.1 t
  rw [hx.2, hy.2] at e2 e3 e4
  generalize V + (if t then -U else U) = W at *
  have hw : (((FloatKind.f64.format.read x).sum (if t then (FloatKind.f64.format.read y).opposite else FloatKind.f64.format.read y)).map FloatKind.f64.format.write).getD (qn .f64) = FloatKind.f64.format.word s r := by
    rw [e1]
    show FloatKind.f64.format.nearest s M _ = _
    refine nearest_units FloatKind.f64.format s (a := 0) (b := q) (Nat.le_of_lt hr) (by omega) ?_
    rw [e2, hu, Nat.pow_zero, Nat.mul_one]
  rw [hw]
  have h9 := apd_word s hr
  refine ⟨h9.1, h9.2.trans ?_⟩
  rw [hu]
  cases s
  · have := e4 rfl
    simp only [Bool.false_eq_true, if_false]
    omega
  · have := e3 rfl
    simp only [if_true]
    omega
theorem apd_sub0 {x y : Nat} {V : Int} (hx : apd x V) (hy : apd y 0) : apd (fop .sub .f64 x y) V := by
  have h := apd_sum0 true hx hy hx.1 (by rw [hx.units]; simp)
  have e : V + (if true = true then -(0 : Int) else 0) = V := by simp
  rw [e] at h
  exact h
def D9 : Nat := 2 ^ 925
theorem D9_is : 2 ^ 925 = D9 := by unfold D9; exact Eq.refl _
theorem er_narrowD {y : Nat} {V : Int} {c : Nat} (hc : c ≤ 200) (hy : apd y V) (h : V.natAbs ≤ 2 ^ 24 * 2 ^ c * D9) :
    fover .f64 .f32 y = false ∧ ∃ Z, apx (fconv .f64 .f32 y) Z ∧ V - ((2 ^ c : Nat) : Int) * (D9 : Int) ≤ Z * (D9 : Int) ∧ Z * (D9 : Int) ≤ V + ((2 ^ c : Nat) : Int) * (D9 : Int) := by
  have h9 := er_narrow (y := y) (V := V) (c := c) hc hy.1 hy.2
  rw [D9_is] at h9
  simp only [Int.natCast_mul] at h9
  exact h9 h
def D7 : Nat := 2 ^ 776
theorem pow_split {p q r : Nat} (h : p = q + r) : (2 : Nat) ^ p = 2 ^ q * 2 ^ r := by rw [h, Nat.pow_add]
end Go.Proofs.Ytnclpojljgpadaa


namespace Go.Proofs.Ytnclpojljgpadaa
open Go.RowKit

set_option maxRecDepth 20000
set_option linter.unusedSimpArgs false
/-- Written: not farther than a step of the grid. -/
theorem er_core64 (s : Bool) {m a b c : Nat} {e : Int} (hc : c ≤ 1900) (he : e + a = FloatKind.f64.format.leastPlace + b) (h : m * 2 ^ b ≤ 2 ^ 53 * 2 ^ c * 2 ^ a) :
    ∃ r, FloatKind.f64.format.nearest s m e = FloatKind.f64.format.word s r ∧ r < FloatKind.f64.format.infRung ∧ units FloatKind.f64.format r * 2 ^ a ≤ m * 2 ^ b + 2 ^ c * 2 ^ a ∧ m * 2 ^ b ≤ units FloatKind.f64.format r * 2 ^ a + 2 ^ c * 2 ^ a := by
  have hp : 0 < 2 ^ c * 2 ^ a := Nat.mul_pos (pow_pos' _) (pow_pos' _)
  generalize hG : 2 ^ c * 2 ^ a = G at *
  rw [Nat.mul_assoc, hG] at h
  generalize hN : m * 2 ^ b = N at *
  have hn1 : N / G ≤ 2 ^ 53 := Nat.div_le_of_le_mul (by rw [Nat.mul_comm]; exact h)
  have hdm := Nat.div_add_mod N G
  have hml := Nat.mod_lt N hp
  obtain ⟨r1, a1, a2⟩ := er_rep64 hn1 hc
  obtain ⟨t1, b1, b2, b3⟩ := nearest_ge FloatKind.f64.format s (m := m) (r := r1) (a := a) (b := b) (Nat.le_of_lt a1) he (by rw [a2, Nat.mul_assoc, hG, hN, Nat.mul_comm]; omega)
  -- the upper one
  obtain ⟨r2, c1, c2, c3⟩ : ∃ r2, r2 < FloatKind.f64.format.infRung ∧ N ≤ units FloatKind.f64.format r2 * 2 ^ a ∧ units FloatKind.f64.format r2 * 2 ^ a ≤ N + G := by
    by_cases hz : N % G = 0
    · exact ⟨r1, a1, by rw [a2, Nat.mul_assoc, hG, Nat.mul_comm]; omega, by rw [a2, Nat.mul_assoc, hG, Nat.mul_comm]; omega⟩
    · have hn2 : N / G + 1 ≤ 2 ^ 53 := by
        rcases Nat.lt_or_ge (N / G) (2 ^ 53) with h1 | h1
        · exact h1
        · have : G * (2 ^ 53) ≤ G * (N / G) := Nat.mul_le_mul_left _ h1
          rw [Nat.mul_comm] at this
          omega
      obtain ⟨r2, d1, d2⟩ := er_rep64 hn2 hc
      have e2 : (N / G + 1) * G = G * (N / G) + G := by rw [Nat.add_mul, Nat.one_mul, Nat.mul_comm]
      exact ⟨r2, d1, by rw [d2, Nat.mul_assoc, hG, e2]; omega, by rw [d2, Nat.mul_assoc, hG, e2]; omega⟩
  obtain ⟨t2, d1, d2⟩ := nearest_le FloatKind.f64.format s (m := m) (r := r2) (a := a) (b := b) he (by rw [hN]; exact c2)
  have ht : t1 = t2 := by
    have h1 := rng_word .f64 s (r := t1) b3
    have h2 := rng_word .f64 s (r := t2) (by omega)
    rw [← h1.1, ← h2.1, ← b1, ← d1]
  subst ht
  have m1 := Nat.mul_le_mul_right (2 ^ a) (units_mono FloatKind.f64.format b2)
  have m2 := Nat.mul_le_mul_right (2 ^ a) (units_mono FloatKind.f64.format d2)
  rw [a2, Nat.mul_assoc, hG, Nat.mul_comm] at m1
  exact ⟨t1, b1, by omega, by omega, by omega⟩
theorem apd.sgn {x : Nat} {X : Int} (h : apd x X) : (sgn FloatKind.f64.format x = true → X ≤ 0) ∧ (sgn FloatKind.f64.format x = false → 0 ≤ X) := by
  have := h.2
  unfold sval at this
  constructor <;> intro hs <;> rw [hs] at this <;> simp at this <;> omega
theorem sgn_xorD {x y : Nat} {X Y : Int} (hx : apd x X) (hy : apd y Y) : ((sgn FloatKind.f64.format x ^^ sgn FloatKind.f64.format y) = true → X * Y ≤ 0) ∧ ((sgn FloatKind.f64.format x ^^ sgn FloatKind.f64.format y) = false → 0 ≤ X * Y) := by
  have sa := hx.sgn
  have sb := hy.sgn
  cases hsx : sgn FloatKind.f64.format x <;> cases hsy : sgn FloatKind.f64.format y
  · exact ⟨by simp, fun _ => Int.mul_nonneg (sa.2 hsx) (sb.2 hsy)⟩
  · exact ⟨fun _ => Int.mul_nonpos_of_nonneg_of_nonpos (sa.2 hsx) (sb.1 hsy), by simp⟩
  · exact ⟨fun _ => Int.mul_nonpos_of_nonpos_of_nonneg (sa.1 hsx) (sb.2 hsy), by simp⟩
  · exact ⟨by simp, fun _ => Int.mul_nonneg_of_nonpos_of_nonpos (sa.1 hsx) (sb.1 hsy)⟩
end Go.Proofs.Ytnclpojljgpadaa


namespace Go.Proofs.Ytnclpojljgpadaa
open Go.RowKit

section
variable {P : Program} {E : Env} {o : Oper}
end
def pw64 (a b : Nat) : Nat := fop .add .f64 (fop .mul .f64 (up a) (up a)) (fop .mul .f64 (up b) (up b))
def pwr (a b : Nat) : Nat := fconv .f64 .f32 (pw64 a b)
def tc1 (a b c d : Nat) : Nat := fop .sub .f64 (fop .mul .f64 (up a) (up c)) (fop .mul .f64 (up b) (up d))
def tc2 (a b c d : Nat) : Nat := fop .add .f64 (fop .mul .f64 (up a) (up d)) (fop .mul .f64 (up b) (up c))
def oc1 (a b c d : Nat) : Nat := fop .quo .f64 (fop .sub .f64 (fop .mul .f64 (up a) (up c)) (fop .mul .f64 (up b) (fneg .f64 (up d)))) (pw64 c d)
def oc2 (a b c d : Nat) : Nat := fop .quo .f64 (fop .add .f64 (fop .mul .f64 (up a) (fneg .f64 (up d))) (fop .mul .f64 (up b) (up c))) (pw64 c d)
end Go.Proofs.Ytnclpojljgpadaa


namespace Go.Proofs.Ytnclpojljgpadaa
open Go.RowKit

/-- A zero, narrowed. -/
theorem er_zero {y : Nat} (hy : apd y 0) : fover .f64 .f32 y = false ∧ apx (fconv .f64 .f32 y) 0 := by
  obtain ⟨m, e, a1, a2⟩ := read_number FloatKind.f64.format hy.1
  rw [hy.units, Int.natAbs_zero] at a2
  have hm : m = 0 := by
    rcases Nat.eq_zero_or_pos m with h | h
    · exact h
    · have := Nat.mul_pos h (pow_pos' e); omega
  subst hm
  have hd : FloatKind.f64.decode y = .number (sgn FloatKind.f64.format y) 0 (FloatKind.f64.format.leastPlace + (e : Int)) := a1
  have he : FloatKind.f32.encode (.number (sgn FloatKind.f64.format y) 0 (FloatKind.f64.format.leastPlace + (e : Int))) = FloatKind.f32.format.word (sgn FloatKind.f64.format y) 0 := by
    show FloatKind.f32.format.nearest (sgn FloatKind.f64.format y) 0 (FloatKind.f64.format.leastPlace + (e : Int)) = _
    unfold Ieee.Format.nearest
    rw [if_pos rfl]
  have hw := er_word (sgn FloatKind.f64.format y) (r := 0) (by decide)
  refine ⟨?_, ?_⟩
  · unfold fover
    rw [if_neg (by decide), hd]
    simp only [he]
    obtain ⟨m', e', b1, _⟩ := read_number FloatKind.f32.format hw.2.1
    have b2 : FloatKind.f32.decode (FloatKind.f32.format.word (sgn FloatKind.f64.format y) 0) = _ := b1
    rw [b2]; rfl
  · unfold fconv
    rw [if_neg (by decide), hd]
    simp only [he]
    have e0 : (if sgn FloatKind.f64.format y = true then -(units FloatKind.f32.format 0 : Int) else (units FloatKind.f32.format 0 : Int)) = 0 := by
      rw [(units_zero FloatKind.f32.format).2 rfl]; simp
    rw [e0] at hw
    exact hw
section
variable {a b c d : Nat} {A C : Int}
end
end Go.Proofs.Ytnclpojljgpadaa


namespace Go.Proofs.Ytnclpojljgpadaa
open Go.RowKit

def cl (xs : List (Nat × Nat)) : List Value := xs.map fun p => Value.complex .f32 p.1 p.2
def crents (t : TypeId) (f : Nat → Option Addr × Nat) (xss : List (List (Nat × Nat))) : List Ent := (List.range xss.length).map fun i => ⟨(f i).1, cl (xss.getD i []), (f i).2 * 1, t⟩
theorem crents_mem {t : TypeId} {f : Nat → Option Addr × Nat} {xss : List (List (Nat × Nat))} {i : Nat} (h : i < xss.length) : (⟨(f i).1, cl (xss.getD i []), (f i).2 * 1, t⟩ : Ent) ∈ crents t f xss := by
  unfold crents
  exact List.mem_map.2 ⟨i, by simpa using h, rfl⟩
/-- Each row's cells lie where its header says. -/
def CRws (w : World) (f : Nat → Option Addr × Nat) (xss : List (List (Nat × Nat))) : Prop := ∀ i, i < xss.length → Cl w (f i).1 (cl (xss.getD i []))
theorem CRws.below {w w' : World} {f : Nat → Option Addr × Nat} {xss : List (List (Nat × Nat))} (h : CRws w f xss) (hb : Below w.heap.size w w') : CRws w' f xss := fun i hi => (h i hi).below hb
theorem CRws.root {w0 w : World} {O : List Ent} {f : Nat → Option Addr × Nat} {xss : List (List (Nat × Nat))} (h : CRws w0 f xss) (hw : Hp w0 O w) : CRws w f xss := h.below hw.below
inductive CRowsIn : List Ent → TypeId → (Nat → Option Addr × Nat) → List (List (Nat × Nat)) → Prop
  | here {t : TypeId} {f : Nat → Option Addr × Nat} {xss : List (List (Nat × Nat))} {O : List Ent} : CRowsIn (crents t f xss ++ O) t f xss
  | last {t : TypeId} {f : Nat → Option Addr × Nat} {xss : List (List (Nat × Nat))} : CRowsIn (crents t f xss) t f xss
  | there {t : TypeId} {f : Nat → Option Addr × Nat} {xss : List (List (Nat × Nat))} {e : Ent} {O : List Ent} : CRowsIn O t f xss → CRowsIn (e :: O) t f xss
  | thereS {t : TypeId} {f : Nat → Option Addr × Nat} {xss : List (List (Nat × Nat))} {S O : List Ent} : CRowsIn O t f xss → CRowsIn (S ++ O) t f xss
theorem CRowsIn.mem {O : List Ent} {t : TypeId} {f : Nat → Option Addr × Nat} {xss : List (List (Nat × Nat))} (h : CRowsIn O t f xss) : ∀ i, i < xss.length → (⟨(f i).1, cl (xss.getD i []), (f i).2 * 1, t⟩ : Ent) ∈ O := by
  induction h with
  | here => exact fun i hi => List.mem_append_left _ (crents_mem hi)
  | last => exact fun i hi => crents_mem hi
  | there _ ih => exact fun i hi => List.mem_cons_of_mem _ (ih i hi)
  | thereS _ ih => exact fun i hi => List.mem_append_right _ (ih i hi)
theorem CRws.own {w0 w : World} {O : List Ent} {t : TypeId} {f : Nat → Option Addr × Nat} {xss : List (List (Nat × Nat))} (h : CRowsIn O t f xss) (hw : Hp w0 O w) : CRws w f xss := fun i hi => Sees.own (h.mem i hi) w hw
/-! ### one row is taken out, and put back -/
end Go.Proofs.Ytnclpojljgpadaa


namespace Go.Proofs.Ytnclpojljgpadaa
open Go.RowKit

abbrev CP := Nat × Nat
def cT (p q : CP) : CP := (fconv .f64 .f32 (tc1 p.1 p.2 q.1 q.2), fconv .f64 .f32 (tc2 p.1 p.2 q.1 q.2))
def cO (p q : CP) : CP := (fconv .f64 .f32 (oc1 p.1 p.2 q.1 q.2), fconv .f64 .f32 (oc2 p.1 p.2 q.1 q.2))
def cM (p q : CP) : CP := (fop .sub .f32 p.1 q.1, fop .sub .f32 p.2 q.2)
abbrev tOk (p q : CP) : Prop := fover .f64 .f32 (tc1 p.1 p.2 q.1 q.2) = false ∧ fover .f64 .f32 (tc2 p.1 p.2 q.1 q.2) = false
abbrev oOk (p q : CP) : Prop := fover .f64 .f32 (oc1 p.1 p.2 q.1 q.2) = false ∧ fover .f64 .f32 (oc2 p.1 p.2 q.1 q.2) = false
def EF (A : Nat → Nat → CP) : Nat → Nat → Nat → CP
  | 0, i, j => A i j
  | k + 1, i, j => if k < i ∧ k < j then cM (EF A k i j) (cT (cO (EF A k i k) (EF A k k k)) (EF A k k j)) else EF A k i j
def XF (A : Nat → Nat → CP) (b : Nat → CP) : Nat → Nat → CP
  | 0, i => b i
  | k + 1, i => if k < i then cM (XF A b k i) (cT (cO (EF A k i k) (EF A k k k)) (XF A b k k)) else XF A b k i
def BS (U : Nat → Nat → CP) (Y : Nat → CP) (t : Nat) : Nat → CP
  | 0 => Y t
  | e + 1 => cM (BS U Y t e) (cT (U t (t + 1 + e)) (Y (t + 1 + e)))
def BF (n : Nat) (U : Nat → Nat → CP) (y : Nat → CP) : Nat → Nat → CP
  | 0, t => y t
  | d + 1, t => if t + 1 + d = n then cO (BS U (BF n U y d) t d) (U t t) else BF n U y d t
structure SOk (n : Nat) (A : Nat → Nat → CP) (b : Nat → CP) : Prop where
  piv : ∀ k r, k ≤ r → r < n → fover .f64 .f32 (pw64 (EF A k r k).1 (EF A k r k).2) = false
  pgt : ∀ k r, k < r → r < n → fcmp .gtr .f32 (pwr (EF A k r k).1 (EF A k r k).2) (pwr (EF A k k k).1 (EF A k k k).2) = false
  peq : ∀ k, k < n → fcmp .eql .f32 (pwr (EF A k k k).1 (EF A k k k).2) (pwr (EF A k k k).1 (EF A k k k).2) = true
  pos : ∀ k, k < n → fcmp .gtr .f32 (pwr (EF A k k k).1 (EF A k k k).2) 0 = true
  elo : ∀ k r, k < r → r < n → oOk (EF A k r k) (EF A k k k)
  elt : ∀ k r c, k < r → r < n → k < c → c < n → tOk (cO (EF A k r k) (EF A k k k)) (EF A k k c)
  elx : ∀ k r, k < r → r < n → tOk (cO (EF A k r k) (EF A k k k)) (XF A b k k)
  bkt : ∀ t d e, t + 1 + d = n → e < d → tOk (EF A n t (t + 1 + e)) (BF n (EF A n) (XF A b n) d (t + 1 + e))
  bko : ∀ t d, t + 1 + d = n → oOk (BS (EF A n) (BF n (EF A n) (XF A b n) d) t d) (EF A n t t)

theorem csetD {α : Type} {xs : List α} {k i : Nat} {v d : α} (h : k < xs.length) : (xs.set k v).getD i d = if i = k then v else xs.getD i d := by
  by_cases e : i = k
  · subst e; simp [List.getD, h]
  · rw [if_neg e]; simp [List.getD, List.getElem?_set_ne (Ne.symm e)]
section
variable {P : Program} {w0 : World} {O : List Ent} {E : Env} {o : Oper}
end
/-- n rows of n numbers. -/
def Sq (n : Nat) (xss : List (List CP)) : Prop := xss.length = n ∧ ∀ i, i < n → (xss.getD i []).length = n
theorem Sq.set {n k : Nat} {xss : List (List CP)} {row : List CP} (h : Sq n xss) (hk : k < n) (hr : row.length = n) : Sq n (xss.set k row) := by
  refine ⟨by rw [List.length_set]; exact h.1, fun i hi => ?_⟩
  rw [csetD (by rw [h.1]; exact hk)]
  by_cases e : i = k
  · rw [if_pos e]; exact hr
  · rw [if_neg e]; exact h.2 i hi
end Go.Proofs.Ytnclpojljgpadaa


namespace Go.Proofs.Ytnclpojljgpadaa
open Go.RowKit

def WW : Rat := ((16777216 * UU : Int) : Rat)
theorem WW_is : WW = 16777216 * ((UU : Int) : Rat) := by unfold WW; rw [Rat.intCast_mul]; rfl
theorem WW_pos : 0 < WW := by
  unfold WW
  have := UU_pos
  have h : (0 : Int) < 16777216 * UU := by omega
  have h2 := (Rat.intCast_lt_intCast (a := 0) (b := 16777216 * UU)).2 h
  exact h2
def qv (x : Nat) (q : Rat) : Prop := ∃ X : Int, apx x X ∧ (X : Rat) = q * WW
theorem i_of_q {A B : Int} {a b : Rat} (hA : (A : Rat) = a * WW) (hB : (B : Rat) = b * WW) (h : a ≤ b) : A ≤ B := by
  rw [← Rat.intCast_le_intCast, hA, hB]
  exact Rat.mul_le_mul_of_nonneg_right h (Rat.le_of_lt WW_pos)
theorem q_of_i {A B : Int} {a b : Rat} (hA : (A : Rat) = a * WW) (hB : (B : Rat) = b * WW) (h : A ≤ B) : a ≤ b := by
  rw [← Rat.intCast_le_intCast, hA, hB] at h
  exact Rat.le_of_mul_le_mul_right h WW_pos
theorem WW2_pos : 0 < WW * WW := Rat.mul_pos WW_pos WW_pos
theorem i_of_q2 {A B : Int} {a b : Rat} (hA : (A : Rat) = a * (WW * WW)) (hB : (B : Rat) = b * (WW * WW)) (h : a ≤ b) : A ≤ B := by
  rw [← Rat.intCast_le_intCast, hA, hB]
  exact Rat.mul_le_mul_of_nonneg_right h (Rat.le_of_lt WW2_pos)
theorem q_of_i2 {A B : Int} {a b : Rat} (hA : (A : Rat) = a * (WW * WW)) (hB : (B : Rat) = b * (WW * WW)) (h : A ≤ B) : a ≤ b := by
  rw [← Rat.intCast_le_intCast, hA, hB] at h
  exact Rat.le_of_mul_le_mul_right h WW2_pos
/-- K is a power of two, not too great. -/
def pw2 (k : Nat) (K : Rat) : Prop := K = ((2 ^ k : Nat) : Rat)
theorem pw2_int {k : Nat} {K : Rat} (h : pw2 k K) : ∃ J : Int, ((2 ^ k : Nat) : Int) = J ∧ (J : Rat) = K := ⟨_, rfl, by rw [h]; rfl⟩
section
variable {x y : Nat} {p q K : Rat} {k : Nat}
theorem qv_add (hK : pw2 k K) (hk : k ≤ 70) (hx : qv x p) (hy : qv y q) (h1 : -K ≤ p + q) (h2 : p + q ≤ K) : ∃ z, qv (fop .add .f32 x y) z ∧ p + q - K / 16777216 ≤ z ∧ z ≤ p + q + K / 16777216 := by
  obtain ⟨X, hX, eX⟩ := hx
  obtain ⟨Y, hY, eY⟩ := hy
  obtain ⟨J, hJ, rfl⟩ := pw2_int hK
  have hw := WW_is
  have hp := WW_pos
  obtain ⟨Z, z1, z2, z3⟩ := er_add k hJ hk hX hY
    (i_of_q (a := -(J : Rat)) (b := p + q) (by push_cast; grind) (by push_cast; grind) h1) (i_of_q (a := p + q) (b := (J : Rat)) (by push_cast; grind) (by push_cast; grind) h2)
  refine ⟨(Z : Rat) / WW, ⟨Z, z1, by grind⟩, q_of_i (B := Z) ?_ (by grind) z2, q_of_i (A := Z) (by grind) ?_ z3⟩
  · push_cast; grind
  · push_cast; grind
theorem qv_sub (hK : pw2 k K) (hk : k ≤ 70) (hx : qv x p) (hy : qv y q) (h1 : -K ≤ p - q) (h2 : p - q ≤ K) : ∃ z, qv (fop .sub .f32 x y) z ∧ p - q - K / 16777216 ≤ z ∧ z ≤ p - q + K / 16777216 := by
  obtain ⟨X, hX, eX⟩ := hx
  obtain ⟨Y, hY, eY⟩ := hy
  obtain ⟨J, hJ, rfl⟩ := pw2_int hK
  have hw := WW_is
  have hp := WW_pos
  obtain ⟨Z, z1, z2, z3⟩ := er_sub k hJ hk hX hY
    (i_of_q (a := -(J : Rat)) (b := p - q) (by push_cast; grind) (by push_cast; grind) h1) (i_of_q (a := p - q) (b := (J : Rat)) (by push_cast; grind) (by push_cast; grind) h2)
  refine ⟨(Z : Rat) / WW, ⟨Z, z1, by grind⟩, q_of_i (B := Z) ?_ (by grind) z2, q_of_i (A := Z) (by grind) ?_ z3⟩
  · push_cast; grind
  · push_cast; grind
theorem qv_mul (hK : pw2 k K) (hk : k ≤ 70) (hx : qv x p) (hy : qv y q) (h1 : -K ≤ p * q) (h2 : p * q ≤ K) : ∃ z, qv (fop .mul .f32 x y) z ∧ p * q - K / 16777216 ≤ z ∧ z ≤ p * q + K / 16777216 := by
  obtain ⟨X, hX, eX⟩ := hx
  obtain ⟨Y, hY, eY⟩ := hy
  obtain ⟨J, hJ, rfl⟩ := pw2_int hK
  have hw := WW_is
  have hp := WW_pos
  obtain ⟨Z, z1, z2, z3⟩ := er_mul k hJ hk hX hY
    (i_of_q2 (a := -(J : Rat)) (b := p * q) (by push_cast; grind) (by push_cast; grind) h1) (i_of_q2 (a := p * q) (b := (J : Rat)) (by push_cast; grind) (by push_cast; grind) h2)
  refine ⟨(Z : Rat) / WW, ⟨Z, z1, by grind⟩, q_of_i2 ?_ ?_ z2, q_of_i2 ?_ ?_ z3⟩
  · push_cast; grind
  · push_cast; grind
  · push_cast; grind
  · push_cast; grind
end
end Go.Proofs.Ytnclpojljgpadaa


namespace Go.Proofs.Ytnclpojljgpadaa
open Go.RowKit

def W9 : Rat := WW * ((D9 : Nat) : Rat)
theorem D9_pos : 0 < D9 := by rw [← D9_is]; exact pow_pos' 925
attribute [local irreducible] D9 D7 UU
theorem D9r_pos : (0 : Rat) < ((D9 : Nat) : Rat) := by
  have := (Rat.intCast_lt_intCast (a := 0) (b := ((D9 : Nat) : Int))).2 (by have := D9_pos; omega)
  exact this
theorem W9_pos : 0 < W9 := Rat.mul_pos WW_pos D9r_pos
theorem WW_149 : WW = ((2 ^ 149 : Nat) : Rat) := by
  unfold WW
  rw [BB_is]; rfl
theorem W9_pow {P : Nat} (hP : P = 1074) : W9 = ((2 ^ P : Nat) : Rat) := by
  have h := pow_split (p := P) (q := 149) (r := 925) (by omega)
  rw [D9_is] at h
  unfold W9
  rw [WW_149, ← Rat.natCast_mul, h]
def dv (x : Nat) (q : Rat) : Prop := ∃ V : Int, apd x V ∧ (V : Rat) = q * W9
section
variable {x y : Nat} {p q K : Rat} {k : Nat}
theorem dv_sub0 (hx : dv x p) (hy : apd y 0) : dv (fop .sub .f64 x y) p := by
  obtain ⟨X, hX, eX⟩ := hx
  exact ⟨X, apd_sub0 hX hy, eX⟩
theorem abs_int {X : Int} {m c : Rat} (h1 : -c ≤ (X : Rat)) (h2 : (X : Rat) ≤ c) (hm : c = m) : ((X.natAbs : Nat) : Rat) ≤ m := by
  subst hm
  rcases Int.natAbs_eq X with h | h
  · have : ((X.natAbs : Nat) : Rat) = ((X : Int) : Rat) := by
      have := congrArg (fun z : Int => (z : Rat)) h
      exact this.symm
    rw [this]; exact h2
  · have : ((X.natAbs : Nat) : Rat) = -((X : Int) : Rat) := by
      have h3 : ((X.natAbs : Nat) : Int) = -X := by omega
      have := congrArg (fun z : Int => (z : Rat)) h3
      simp only [Rat.intCast_neg] at this
      exact this
    rw [this]; grind
theorem nat_of_q {a b : Nat} (h : (a : Rat) ≤ (b : Rat)) : a ≤ b := by
  have := (Rat.intCast_le_intCast (a := (a : Int)) (b := (b : Int))).1 h
  omega
theorem dv_narrow (hK : pw2 k K) (hk : k ≤ 70) (hx : dv x p) (h1 : -K ≤ p) (h2 : p ≤ K) : fover .f64 .f32 x = false ∧ ∃ z, qv (fconv .f64 .f32 x) z ∧ p - K / 16777216 ≤ z ∧ z ≤ p + K / 16777216 := by
  obtain ⟨X, hX, eX⟩ := hx
  have hp := W9_pos
  have hq := D9r_pos
  have e24 : ((2 ^ 24 * 2 ^ (125 + k) : Nat) : Rat) = K * WW := by
    rw [hK, WW_149, ← Rat.natCast_mul, ← Nat.pow_add, ← Nat.pow_add]
    congr 2; omega
  have e25 : ((2 ^ (125 + k) : Nat) : Rat) = K * WW / 16777216 := by
    rw [← e24, Rat.natCast_mul]
    have : ((2 ^ 24 : Nat) : Rat) = 16777216 := by rfl
    rw [this]; grind
  obtain ⟨a1, Z, a2, a3, a4⟩ := er_narrowD (c := 125 + k) (by omega) hX (nat_of_q (by
    rw [Rat.natCast_mul, e24]
    refine abs_int (c := K * W9) ?_ ?_ (by unfold W9; grind)
    · rw [eX]
      have := Rat.mul_le_mul_of_nonneg_right h1 (Rat.le_of_lt hp)
      grind
    · rw [eX]
      exact Rat.mul_le_mul_of_nonneg_right h2 (Rat.le_of_lt hp)))
  obtain ⟨z, hz⟩ : ∃ z : Rat, (Z : Rat) = z * WW := ⟨(Z : Rat) / WW, by have := WW_pos; grind⟩
  refine ⟨a1, z, ⟨Z, a2, hz⟩, ?_, ?_⟩
  · have := (Rat.intCast_le_intCast).2 a3
    simp only [Rat.intCast_sub, Rat.intCast_mul, Rat.intCast_natCast] at this
    rw [e25, eX, hz] at this
    unfold W9 at this hp
    have hw := WW_pos
    refine Rat.le_of_mul_le_mul_right (c := WW * ((D9 : Nat) : Rat)) ?_ hp
    generalize ((D9 : Nat) : Rat) = d at *
    grind
  · have := (Rat.intCast_le_intCast).2 a4
    simp only [Rat.intCast_add, Rat.intCast_mul, Rat.intCast_natCast] at this
    rw [e25, eX, hz] at this
    unfold W9 at this hp
    have hw := WW_pos
    refine Rat.le_of_mul_le_mul_right (c := WW * ((D9 : Nat) : Rat)) ?_ hp
    generalize ((D9 : Nat) : Rat) = d at *
    grind
end
end Go.Proofs.Ytnclpojljgpadaa


namespace Go.Proofs.Ytnclpojljgpadaa
open Go.RowKit

attribute [local irreducible] D9 D7 UU WW W9
section
variable {p q : CP} {a b K : Rat} {k : Nat}
end
/-! ### comparisons -/
section
variable {x y : Nat} {p q : Rat}
theorem qv_cmp {X Y : Int} (hx : apx x X) (hy : apx y Y) : FloatKind.f32.format.order x y = some (compare X Y) := by
  rw [order_number hx.2.1 hy.2.1, hx.2.2, hy.2.2]
theorem qv_gt (hx : qv x p) (hy : qv y q) (h : q < p) : fcmp .gtr .f32 x y = true := by
  obtain ⟨X, hX, eX⟩ := hx
  obtain ⟨Y, hY, eY⟩ := hy
  show (FloatKind.f32.format.order x y == some .gt) = true
  have : Y < X := by
    rcases (by omega : Y < X ∨ X ≤ Y) with g | g
    · exact g
    · have := q_of_i eX eY g; grind
  rw [qv_cmp hX hY, Int.compare_eq_gt.2 this]; rfl
theorem qv_ngt (hx : qv x p) (hy : qv y q) (h : p ≤ q) : fcmp .gtr .f32 x y = false := by
  obtain ⟨X, hX, eX⟩ := hx
  obtain ⟨Y, hY, eY⟩ := hy
  show (FloatKind.f32.format.order x y == some .gt) = false
  have := i_of_q eX eY h
  rw [qv_cmp hX hY]
  rcases Int.lt_trichotomy X Y with h | h | h
  · rw [Int.compare_eq_lt.2 h]; rfl
  · rw [compare_eq.2 h]; rfl
  · omega
/-- Multiples of a 128th. -/
theorem qv_dy {v : Int} (h : dy .f32 x v) : qv x ((v : Rat) / 128) := by
  refine ⟨_, apx_dy h, ?_⟩
  have e : (2 : Int) ^ dyU .f32 * 128 = 16777216 * UU := by
    rw [BB_is]; decide
  have e2 := congrArg (fun z : Int => (z : Rat)) e
  simp only [Rat.intCast_mul] at e2
  have e3 : WW = (((2 : Int) ^ dyU .f32 : Int) : Rat) * 128 := by
    unfold WW
    rw [← e, Rat.intCast_mul]; rfl
  rw [Rat.intCast_mul, e3]
  generalize (((2 : Int) ^ dyU .f32 : Int) : Rat) = u
  grind
end
end Go.Proofs.Ytnclpojljgpadaa


namespace Go.Proofs.Ytnclpojljgpadaa
open Go.RowKit

attribute [local irreducible] D9 D7 UU WW W9
def Rg (a A : Rat) : Prop := -A ≤ a ∧ a ≤ A
theorem rmul {a b A B : Rat} (h1 : Rg a A) (h2 : Rg b B) : Rg (a * b) (A * B) := by
  obtain ⟨h1, h2'⟩ := h1
  obtain ⟨h3, h4⟩ := h2
  have g1 := Rat.mul_nonneg (show 0 ≤ A - a by grind) (show 0 ≤ B - b by grind)
  have g2 := Rat.mul_nonneg (show 0 ≤ A + a by grind) (show 0 ≤ B + b by grind)
  have g3 := Rat.mul_nonneg (show 0 ≤ A - a by grind) (show 0 ≤ B + b by grind)
  have g4 := Rat.mul_nonneg (show 0 ≤ A + a by grind) (show 0 ≤ B - b by grind)
  exact ⟨by grind, by grind⟩
section
variable {p q : CP} {a b A B S c d u D K : Rat} {k : Nat}
theorem Rg.mono (h : Rg a A) (hAB : A ≤ B) : Rg a B := ⟨by have := h.1; grind, by have := h.2; grind⟩
theorem Rg.sc (h : Rg a (A * S)) (hS : 0 ≤ S) (hAB : A ≤ B) : Rg a (B * S) := h.mono (Rat.mul_le_mul_of_nonneg_right hAB hS)
theorem Rg.one (h : Rg a A) : Rg a (A * 1) := by rw [Rat.mul_one]; exact h
theorem Rg.add (h1 : Rg a A) (h2 : Rg b B) : Rg (a + b) (A + B) := ⟨by have := h1.1; have := h2.1; grind, by have := h1.2; have := h2.2; grind⟩
theorem Rg.sub (h1 : Rg a A) (h2 : Rg b B) : Rg (a - b) (A + B) := ⟨by have := h1.1; have := h2.2; grind, by have := h1.2; have := h2.1; grind⟩
theorem pw2_mul (j : Nat) {J : Rat} (hJ : ((2 ^ j : Nat) : Rat) = J) (h : pw2 k K) : pw2 (k + j) (J * K) := by
  unfold pw2 at *
  rw [h, ← hJ, ← Rat.natCast_mul, ← Nat.pow_add, Nat.add_comm]
theorem pw2_nn (h : pw2 k K) : 0 ≤ K := by rw [h]; exact Rat.natCast_nonneg
end
theorem qv_zero : qv 0 0 := by
  refine ⟨0, ?_, by simp⟩
  refine ⟨by decide, by decide, ?_⟩
  have h : rng FloatKind.f32.format 0 = 0 := by decide
  have h2 : sgn FloatKind.f32.format 0 = false := by decide
  unfold sval
  rw [h, h2, (units_zero FloatKind.f32.format).2 rfl]; rfl
end Go.Proofs.Ytnclpojljgpadaa


namespace Go.Proofs.Ytnclpojljgpadaa
open Go.RowKit

set_option maxRecDepth 20000
theorem rootFrom_spec (n : Nat) : ∀ (todo root : Nat), root * root ≤ n → n < (root + 2 ^ todo) * (root + 2 ^ todo) →
    Ieee.Datum.rootFrom n todo root * Ieee.Datum.rootFrom n todo root ≤ n ∧ n < (Ieee.Datum.rootFrom n todo root + 1) * (Ieee.Datum.rootFrom n todo root + 1)
  | 0, root, h1, h2 => by simpa [Ieee.Datum.rootFrom] using And.intro h1 h2
  | todo + 1, root, h1, h2 => by
    simp only [Ieee.Datum.rootFrom, Nat.shiftLeft_eq, Nat.one_mul]
    split
    · rename_i h
      exact rootFrom_spec n todo (root + 2 ^ todo) h (by rw [Nat.add_assoc, ← Nat.mul_two, ← Nat.pow_succ]; exact h2)
    · rename_i h
      exact rootFrom_spec n todo root h1 (by omega)
theorem root_start (n : Nat) : n < (0 + 2 ^ (n.log2 / 2 + 1)) * (0 + 2 ^ (n.log2 / 2 + 1)) := by
  rw [Nat.zero_add, ← Nat.pow_add]
  exact Nat.lt_of_lt_of_le Nat.lt_log2_self (Nat.pow_le_pow_right (by decide) (by omega))
theorem le_of_sq {a b : Nat} (h : a * a ≤ b * b) : a ≤ b := by
  rcases Nat.lt_or_ge b a with h1 | h1
  · exact absurd h (Nat.not_le.2 (Nat.mul_lt_mul_of_lt_of_le h1 (Nat.le_of_lt h1) (by omega)))
  · exact h1
theorem lt_of_sq {a b : Nat} (h : a * a < b * b) : a < b := by
  rcases Nat.lt_or_ge a b with h1 | h1
  · exact h1
  · exact absurd h (Nat.not_lt.2 (Nat.mul_le_mul h1 h1))
/-- The root in doubles, in units: w is the root cut down, u the step behind it. -/
theorem er_sqrt64 {y P c : Nat} {V : Int} (hP : P = 1074) (hc : c ≤ 1900) (hy : apd y V) (hV : 0 ≤ V) (hb : V.natAbs * 2 ^ P ≤ (2 ^ 52 * 2 ^ c) * (2 ^ 52 * 2 ^ c)) :
    ∃ (Z w u : Nat), apd (fsqrt y) (Z : Int) ∧ w * w ≤ V.natAbs * 2 ^ P ∧ V.natAbs * 2 ^ P ≤ (w + u) * (w + u) ∧ Z ≤ w + 2 * 2 ^ c ∧ w + u ≤ Z + 2 * 2 ^ c ∧ (V = 0 → Z = 0) := by
  obtain ⟨m, e, a1, a2⟩ := read_number FloatKind.f64.format hy.1
  rw [hy.units] at a2
  by_cases h0 : m = 0
  · subst h0
    have hv : V.natAbs = 0 := by rw [← a2, Nat.zero_mul]
    have hV0 : V = 0 := by omega
    have hw : fsqrt y = FloatKind.f64.format.word (sgn FloatKind.f64.format y) 0 := by
      have e0 : fsqrt y = (((FloatKind.f64.format.read y).root 54).map FloatKind.f64.format.write).getD (qn .f64) := rfl
      rw [e0, a1]
      simp only [Ieee.Datum.root]
      rw [if_pos trivial, Option.map_some, Option.getD_some]
      show FloatKind.f64.format.nearest _ _ _ = _
      unfold Ieee.Format.nearest
      rw [if_pos rfl]
    refine ⟨0, 0, 0, ?_, Nat.zero_le _, by rw [hv, Nat.zero_mul]; exact Nat.zero_le _, Nat.zero_le _, Nat.zero_le _, fun _ => rfl⟩
    rw [hw]
    have := apd_word (sgn FloatKind.f64.format y) (r := 0) (by decide)
    rw [(units_zero FloatKind.f64.format).2 rfl] at this
    simpa using this
  · have hs : sgn FloatKind.f64.format y = false := by
      cases hs : sgn FloatKind.f64.format y with
      | false => rfl
      | true =>
        have h3 := hy.sgn.1 hs
        have h4 : V.natAbs = 0 := by omega
        rw [h4] at a2
        have h5 := Nat.mul_eq_zero.1 a2
        have h6 := pow_pos' e
        omega
    rw [hs] at a1
    have hm : m.log2 ≤ 52 := by
      have h3 := (decode_double_bound (x := y) (s := false) (m := m) (e := FloatKind.f64.format.leastPlace + (e : Int)) a1).1
      have := (Nat.log2_lt h0).2 h3
      omega
    obtain ⟨more0, hm0⟩ : ∃ k, k = 2 * 54 - m.log2 := ⟨_, rfl⟩
    obtain ⟨more, hmore⟩ : ∃ k, k = more0 + ((FloatKind.f64.format.leastPlace + (e : Int) - (more0 : Int)) % 2).toNat := ⟨_, rfl⟩
    have hmr : more ≤ 109 ∧ more0 ≤ more ∧ (FloatKind.f64.format.leastPlace + (e : Int) - (more : Int)) % 2 = 0 := by omega
    obtain ⟨hmr1, hmr2, hmr3⟩ := hmr
    obtain ⟨n, hn⟩ : ∃ n, n = m * 2 ^ more := ⟨_, rfl⟩
    obtain ⟨w1, w2⟩ := rootFrom_spec n (n.log2 / 2 + 1) 0 (by rw [Nat.zero_mul]; exact Nat.zero_le _) (root_start n)
    obtain ⟨whole, hwh⟩ : ∃ w, w = Ieee.Datum.rootFrom n (n.log2 / 2 + 1) 0 := ⟨_, rfl⟩
    rw [← hwh] at w1 w2
    obtain ⟨bit, hbit⟩ : ∃ b, b = (whole * whole != n).toNat := ⟨_, rfl⟩
    have hb1 : bit ≤ 1 := by rw [hbit]; cases (whole * whole != n) <;> decide
    rw [lp64] at hmr3
    obtain ⟨b, hbb⟩ : ∃ b : Nat, 2 * (b : Int) = 1072 + (e : Int) - (more : Int) := ⟨((1072 + (e : Int) - (more : Int)) / 2).toNat, by omega⟩
    -- in units
    have hu : n * (2 ^ (b + 1) * 2 ^ (b + 1)) = V.natAbs * 2 ^ P := by
      rw [hn, ← a2, Nat.mul_assoc, Nat.mul_assoc, ← Nat.pow_add, ← Nat.pow_add, ← Nat.pow_add]
      exact congrArg (fun k => m * 2 ^ k) (by omega)
    have hW1 : (whole * 2 ^ (b + 1)) * (whole * 2 ^ (b + 1)) ≤ V.natAbs * 2 ^ P := by
      rw [← hu, show (whole * 2 ^ (b + 1)) * (whole * 2 ^ (b + 1)) = whole * whole * (2 ^ (b + 1) * 2 ^ (b + 1)) by simp only [Nat.mul_assoc, Nat.mul_left_comm, Nat.mul_comm]]
      exact Nat.mul_le_mul_right _ w1
    have hW2 : V.natAbs * 2 ^ P ≤ (whole * 2 ^ (b + 1) + 2 ^ (b + 1)) * (whole * 2 ^ (b + 1) + 2 ^ (b + 1)) := by
      rw [← hu, show (whole * 2 ^ (b + 1) + 2 ^ (b + 1)) = (whole + 1) * 2 ^ (b + 1) by rw [Nat.add_mul, Nat.one_mul], show ((whole + 1) * 2 ^ (b + 1)) * ((whole + 1) * 2 ^ (b + 1)) = (whole + 1) * (whole + 1) * (2 ^ (b + 1) * 2 ^ (b + 1)) by simp only [Nat.mul_assoc, Nat.mul_left_comm, Nat.mul_comm]]
      exact Nat.mul_le_mul_right _ (Nat.le_of_lt w2)
    have hwb : whole * 2 ^ (b + 1) ≤ 2 ^ 52 * 2 ^ c := le_of_sq (Nat.le_trans hW1 hb)
    have hwl : 2 ^ 53 ≤ whole := by
      have h3 : 2 ^ 108 ≤ n := by
        have h4 := Nat.log2_self_le h0
        rw [hn]
        calc 2 ^ 108 ≤ 2 ^ (m.log2 + more) := Nat.pow_le_pow_right (by decide) (by omega)
          _ = 2 ^ m.log2 * 2 ^ more := by rw [← Nat.pow_add]
          _ ≤ _ := Nat.mul_le_mul_right _ h4
      have h5 : (2 ^ 54) * (2 ^ 54) < (whole + 1) * (whole + 1) := Nat.lt_of_le_of_lt (by decide : (2 ^ 54) * (2 ^ 54) ≤ 2 ^ 108) (Nat.lt_of_le_of_lt h3 w2)
      have h6 := lt_of_sq h5
      have h7 : (2 : Nat) ^ 53 ≤ 2 ^ 54 := by decide
      omega
    have hU : 2 ^ (b + 1) ≤ 2 ^ c := by
      have h3 : 2 ^ 52 * 2 ^ (b + 1) ≤ 2 ^ 52 * 2 ^ c := Nat.le_trans (Nat.mul_le_mul_right _ (Nat.le_trans (by decide) hwl)) hwb
      exact Nat.le_of_mul_le_mul_left h3 (by decide)
    have hpb : 2 ^ (b + 1) = 2 * 2 ^ b := by rw [Nat.pow_succ, Nat.mul_comm]
    have hbm : bit * 2 ^ b ≤ 2 ^ b := by
      have := Nat.mul_le_mul_right (2 ^ b) hb1
      rwa [Nat.one_mul] at this
    have hM : (2 * whole + bit) * 2 ^ b = whole * 2 ^ (b + 1) + bit * 2 ^ b := by rw [Nat.add_mul, hpb]; simp only [Nat.mul_assoc, Nat.mul_comm]
    obtain ⟨r, r1, r2, r3, r4⟩ := er_core64 false (m := 2 * whole + bit) (a := 0) (b := b) (c := c) (e := (FloatKind.f64.format.leastPlace + (e : Int) - (more : Int)) / 2 - 1) hc (by rw [lp64]; omega) (by
      rw [Nat.pow_zero, Nat.mul_one, hM]
      have h3 : (2 : Nat) ^ 53 = 2 ^ 52 + 2 ^ 52 := by decide
      rw [h3, Nat.add_mul]
      have h4 : 2 ^ c ≤ 2 ^ 52 * 2 ^ c := Nat.le_mul_of_pos_left _ (by decide)
      omega)
    rw [Nat.pow_zero, Nat.mul_one, Nat.mul_one, hM] at r3 r4
    have hw : fsqrt y = FloatKind.f64.format.word false r := by
      have e0 : fsqrt y = (((FloatKind.f64.format.read y).root 54).map FloatKind.f64.format.write).getD (qn .f64) := rfl
      rw [e0, a1]
      simp only [Ieee.Datum.root, if_neg h0, Bool.false_eq_true, if_false, Option.map_some, Option.getD_some, ← hm0, ← hmore, shl_eq, ← hn, ← hwh, ← hbit]
      exact r1
    refine ⟨units FloatKind.f64.format r, whole * 2 ^ (b + 1), 2 ^ (b + 1), ?_, hW1, hW2, by omega, by omega, fun h => ?_⟩
    · rw [hw]
      have := apd_word false r2
      simpa using this
    · rw [h] at a2
      have h5 := Nat.mul_eq_zero.1 (show m * 2 ^ e = 0 from a2)
      have h6 := pow_pos' e
      omega
attribute [local irreducible] D9 D7 UU WW W9
section
variable {x : Nat} {v K : Rat} {k : Nat}
theorem rsq_mono {a b : Rat} (h0 : 0 ≤ a) (h : a ≤ b) : a * a ≤ b * b := by
  have h1 := Rat.mul_le_mul_of_nonneg_right h h0
  have h2 := Rat.mul_le_mul_of_nonneg_left h (Rat.le_trans h0 h)
  grind
theorem rsq_le {a b : Rat} (hb : 0 ≤ b) (h : a * a ≤ b * b) : a ≤ b := by
  rcases (Rat.le_total : a ≤ b ∨ b ≤ a) with h1 | h1
  · exact h1
  · have h3 := rsq_mono hb h1
    have h4 : a * a = b * b := by grind
    have h5 : (a - b) * (a + b) = 0 := by grind
    rcases Rat.mul_eq_zero.1 h5 with h6 | h6
    · grind
    · grind
theorem qv_up {q : Rat} (h : qv x q) : dv (up x) q := by
  obtain ⟨X, hX, eX⟩ := h
  have h2 := apd_up hX
  rw [D9_is] at h2
  refine ⟨_, h2, ?_⟩
  have : ((X * ((D9 : Nat) : Int) : Int) : Rat) = (X : Rat) * ((D9 : Nat) : Rat) := by rw [Rat.intCast_mul]; rfl
  rw [this, eX]
  unfold W9
  grind
theorem qv_sqrt0 (hx : qv x 0) : qv (sqrt32 x) 0 := by
  obtain ⟨V, h1, h2⟩ := qv_up hx
  rw [Rat.zero_mul] at h2
  have h3 : V = 0 := Rat.intCast_inj.1 h2
  subst h3
  obtain ⟨P, hP⟩ : ∃ P : Nat, P = 1074 := ⟨_, rfl⟩
  obtain ⟨Z, w, u, z1, _, _, _, _, z6⟩ := er_sqrt64 hP (c := 0) (by omega) h1 (Int.le_refl _) (by rw [Int.natAbs_zero, Nat.zero_mul]; exact Nat.zero_le _)
  rw [z6 rfl] at z1
  exact ⟨0, (er_zero z1).2, by rw [Rat.zero_mul]; rfl⟩
theorem qv_sqrt (hK : pw2 k K) (hk : k ≤ 60) (hx : qv x v) (h0 : 0 ≤ v) (h : v ≤ K * K) :
    ∃ z ω, qv (sqrt32 x) z ∧ 0 ≤ ω ∧ ω * ω ≤ v ∧ z ≤ ω + K / 4194304 ∧ 0 ≤ z + K / 4194304 ∧ v ≤ (z + K / 4194304) * (z + K / 4194304) := by
  obtain ⟨V, h1, h2⟩ := qv_up hx
  obtain ⟨P, hP⟩ : ∃ P : Nat, P = 1074 := ⟨_, rfl⟩
  have hp := W9_pos
  have e1 := W9_pow hP
  obtain ⟨c, hc⟩ : ∃ c : Nat, c + 52 = P + k := ⟨P + k - 52, by omega⟩
  have hV : 0 ≤ V := by
    have := Rat.mul_nonneg h0 (Rat.le_of_lt hp)
    rw [← h2] at this
    exact Rat.intCast_le_intCast.1 this
  have hK0 := pw2_nn hK
  have e2 : ((2 ^ 52 * 2 ^ c : Nat) : Rat) = K * W9 := by
    rw [hK, e1, ← Rat.natCast_mul, ← Nat.pow_add, ← Nat.pow_add]
    congr 2; omega
  have e3 : ((2 ^ c : Nat) : Rat) = K * W9 / 4503599627370496 := by
    rw [Rat.natCast_mul] at e2
    have : ((2 ^ 52 : Nat) : Rat) = 4503599627370496 := by rfl
    rw [this] at e2
    grind
  have hVn : ((V.natAbs : Nat) : Rat) = v * W9 := by
    rw [← h2]
    have h3 : ((V.natAbs : Nat) : Int) = V := by omega
    exact congrArg (fun z : Int => (z : Rat)) h3
  have hpp := Rat.mul_pos hp hp
  obtain ⟨Z, w, u, z1, z2, z3, z4, z5, _⟩ := er_sqrt64 hP (c := c) (by omega) h1 hV (nat_of_q (by
    rw [Rat.natCast_mul, Rat.natCast_mul (2 ^ 52 * 2 ^ c), e2, hVn, ← e1]
    have := Rat.mul_le_mul_of_nonneg_right h (Rat.le_of_lt hpp)
    grind))
  have q2 : ((w * w : Nat) : Rat) ≤ ((V.natAbs * 2 ^ P : Nat) : Rat) := Rat.natCast_le_natCast.2 z2
  have q3 : ((V.natAbs * 2 ^ P : Nat) : Rat) ≤ (((w + u) * (w + u) : Nat) : Rat) := Rat.natCast_le_natCast.2 z3
  have q4 : ((Z : Nat) : Rat) ≤ ((w + 2 * 2 ^ c : Nat) : Rat) := Rat.natCast_le_natCast.2 z4
  have q5 : ((w + u : Nat) : Rat) ≤ ((Z + 2 * 2 ^ c : Nat) : Rat) := Rat.natCast_le_natCast.2 z5
  simp only [Rat.natCast_mul, Rat.natCast_add, hVn, e3, ← e1] at q2 q3 q4 q5
  have hw0 : (0 : Rat) ≤ ((w : Nat) : Rat) := Rat.natCast_nonneg
  have hu0 : (0 : Rat) ≤ ((u : Nat) : Rat) := Rat.natCast_nonneg
  have hZ0 : (0 : Rat) ≤ ((Z : Nat) : Rat) := Rat.natCast_nonneg
  have h22 : ((2 : Nat) : Rat) = 2 := rfl
  rw [h22] at q4 q5
  obtain ⟨ω, hω⟩ : ∃ ω : Rat, ((w : Nat) : Rat) = ω * W9 := ⟨((w : Nat) : Rat) / W9, by grind⟩
  obtain ⟨υ, hυ⟩ : ∃ υ : Rat, ((u : Nat) : Rat) = υ * W9 := ⟨((u : Nat) : Rat) / W9, by grind⟩
  obtain ⟨ζ, hζ⟩ : ∃ ζ : Rat, ((Z : Nat) : Rat) = ζ * W9 := ⟨((Z : Nat) : Rat) / W9, by grind⟩
  rw [hω] at q2 q3 q4 q5 hw0
  rw [hυ] at q3 q5 hu0
  rw [hζ] at q4 q5 hZ0
  have a0 : 0 ≤ ω := Rat.le_of_mul_le_mul_right (c := W9) (by rw [Rat.zero_mul]; exact hw0) hp
  have a1 : 0 ≤ υ := Rat.le_of_mul_le_mul_right (c := W9) (by rw [Rat.zero_mul]; exact hu0) hp
  have a2 : 0 ≤ ζ := Rat.le_of_mul_le_mul_right (c := W9) (by rw [Rat.zero_mul]; exact hZ0) hp
  have b2 : ω * ω ≤ v := Rat.le_of_mul_le_mul_right (c := W9 * W9) (by grind) hpp
  have b3 : v ≤ (ω + υ) * (ω + υ) := Rat.le_of_mul_le_mul_right (c := W9 * W9) (by grind) hpp
  have b4 : ζ ≤ ω + 2 * (K / 4503599627370496) := Rat.le_of_mul_le_mul_right (c := W9) (by grind) hp
  have b5 : ω + υ ≤ ζ + 2 * (K / 4503599627370496) := Rat.le_of_mul_le_mul_right (c := W9) (by grind) hp
  have hωK : ω ≤ K := rsq_le hK0 (Rat.le_trans b2 h)
  have hdv : dv (fsqrt (up x)) ζ := ⟨(Z : Int), z1, by rw [← hζ]; rfl⟩
  obtain ⟨_, z, g1, g2, g3⟩ := dv_narrow (pw2_mul 1 (J := 2) rfl hK) (by omega) hdv (by grind) (by grind)
  refine ⟨z, ω, g1, a0, b2, by grind, by grind, Rat.le_trans b3 (rsq_mono (by grind) (by grind))⟩
end
end Go.Proofs.Ytnclpojljgpadaa


namespace Go.Proofs.Ytnclpojljgpadaa
open Go.RowKit

theorem fmul_comm (a b : Nat) : fop .mul .f32 a b = fop .mul .f32 b a := by
  have key : ∀ d e : Ieee.Datum, d.product e = e.product d := by
    intro d e
    cases d <;> cases e <;> simp [Ieee.Datum.product, Bool.xor_comm, Nat.mul_comm, Int.add_comm]
  unfold fop floatBits Ieee.Format.mul
  simp only
  rw [key]
theorem inner_comm (a b : V3) : inner3 a b = inner3 b a := by
  unfold inner3
  rw [fmul_comm a.1, fmul_comm a.2.1, fmul_comm a.2.2]
theorem inner_fin {f w : V3} (h : fin (inner3 w f) = true) : fin3 f = true := by
  rw [inner_comm] at h
  unfold inner3 at h
  have h1 := fin_add h
  have h2 := fin_add h1.1
  unfold fin3
  rw [fin_mul h2.1, fin_mul h2.2, fin_mul h1.2]; rfl

def coF (ws : List Wr) (p : V3) (j : Nat) : V3 := wireF ((ws.getD j zw).1, (ws.getD j zw).2.1, 1065353216) p
def dRow (ws : List Wr) (way p : V3) (k : Nat) : List Nat := (List.range k).map fun j => inner3 way (coF ws p j)
def dX (ws : List Wr) (vs : List V3) (way : V3) : List (List Nat) := (List.range vs.length).map fun i => dRow ws way (vs.getD i z3) ws.length
def dG (n : Nat) : List Nat := List.replicate n 1065353216
section
variable {ws : List Wr} {vs : List V3} {way p : V3} {xs : List Nat} {i j k : Nat} {g : Nat → Option Addr × Nat}
theorem dRow_length : (dRow ws way p k).length = k := by simp [dRow]
theorem dX_length : (dX ws vs way).length = vs.length := by simp [dX]
theorem dG_length : (dG k).length = k := by simp [dG]
theorem dG_fl : fl (dG k) ++ [.float .f32 1065353216] = fl (dG (k + 1)) := by rw [fl_snoc]; unfold dG; rw [List.replicate_succ']
theorem dRow_fl : fl (dRow ws way p k) ++ [.float .f32 (inner3 way (coF ws p k))] = fl (dRow ws way p (k + 1)) := by rw [fl_snoc]; unfold dRow; rw [List.range_succ]; simp
theorem dRow_fl' (h : fin3 (coF ws p k) = true) : fl (dRow ws way p k) ++ [.float .f32 (inner3 (ifV (coF ws p k)) way)] = fl (dRow ws way p (k + 1)) := by
  rw [← ifV_yes h, inner_comm]; exact dRow_fl
theorem dX_get (h : i < vs.length) : (dX ws vs way).getD i [] = dRow ws way (vs.getD i z3) ws.length := by simp [dX, List.getD, h]
theorem hd_dX {a : Option Addr} {c : Nat} (h : i < vs.length) : hd g ((dX ws vs way).take i) ++ [.slice a ws.length c] = hd (upd g i (a, c)) ((dX ws vs way).take (i + 1)) := by
  have := hd_take (f := g) (xss := dX ws vs way) (k := i) (by rw [dX_length]; exact h) (a, c)
  rwa [dX_get h, dRow_length] at this
theorem dX_take : (dX ws vs way).take vs.length = dX ws vs way := List.take_of_length_le (by rw [dX_length]; exact Nat.le_refl _)
theorem dG_get (h : i < k) : (dG k).getD i 0 = 1065353216 := by simp [dG, List.getD, h]
theorem fin_one : fin 1065353216 = true := by decide
theorem ds_notfin (hi : i < vs.length) (hj : j < ws.length) (h : fin3 (coF ws (vs.getD i z3) j) = false) : validD (dX ws vs way) xs (dG vs.length) = false := by
  refine valid_no fun hv => ?_
  obtain ⟨v1, v2, v3, v4, v5, v6, v7, v8⟩ := hv
  have h6 := (v6 i (by rw [dX_length]; exact hi)).2.1
  rw [dX_get hi, List.all_eq_true] at h6
  have := h6 _ (List.mem_map.2 ⟨j, by simpa using hj, rfl⟩)
  rw [inner_fin this] at h
  cases h
end
noncomputable def dsOk (ws : List Wr) (vs : List V3) (way : V3) (xs : List Nat) : Bool := dwOk ws && dpOk vs && decide (xs.length = vs.length) && validD (dX ws vs way) xs (dG vs.length)
noncomputable def dsX (ws : List Wr) (vs : List V3) (way : V3) (xs : List Nat) : List (List Nat) := if dsOk ws vs way xs then dX ws vs way else []
noncomputable def dsW (ws : List Wr) (vs : List V3) (way : V3) (xs : List Nat) : List Nat := if dsOk ws vs way xs then xs else []
noncomputable def dsG (ws : List Wr) (vs : List V3) (way : V3) (xs : List Nat) : List Nat := if dsOk ws vs way xs then dG vs.length else []
section
variable {ws : List Wr} {vs : List V3} {way : V3} {xs : List Nat}
theorem ds_yes (h1 : dwOk ws = true) (h2 : dpOk vs = true) (h3 : xs.length = vs.length) (h4 : validD (dX ws vs way) xs (dG vs.length) = true) : dsOk ws vs way xs = true := by unfold dsOk; rw [h1, h2, h4, decide_eq_true h3]; rfl
theorem ds_no1 (h : dwOk ws = false) : dsOk ws vs way xs = false := by unfold dsOk; rw [h]; rfl
theorem ds_no2 (h : dpOk vs = false) : dsOk ws vs way xs = false := by unfold dsOk; rw [h, Bool.and_false]; rfl
theorem ds_no3 (h : ¬ xs.length = vs.length) : dsOk ws vs way xs = false := by unfold dsOk; rw [decide_eq_false h, Bool.and_false]; rfl
theorem ds_no4 (h : validD (dX ws vs way) xs (dG vs.length) = false) : dsOk ws vs way xs = false := by unfold dsOk; rw [h, Bool.and_false]
theorem dsX_yes (h : dsOk ws vs way xs = true) : dsX ws vs way xs = dX ws vs way := by unfold dsX; rw [h]; rfl
theorem dsW_yes (h : dsOk ws vs way xs = true) : dsW ws vs way xs = xs := by unfold dsW; rw [h]; rfl
theorem dsG_yes (h : dsOk ws vs way xs = true) : dsG ws vs way xs = dG vs.length := by unfold dsG; rw [h]; rfl
theorem dsX_no (h : dsOk ws vs way xs = false) : dsX ws vs way xs = [] := by unfold dsX; rw [h]; rfl
theorem dsW_no (h : dsOk ws vs way xs = false) : dsW ws vs way xs = [] := by unfold dsW; rw [h]; rfl
theorem dsG_no (h : dsOk ws vs way xs = false) : dsG ws vs way xs = [] := by unfold dsG; rw [h]; rfl
theorem bulk_dX (h : dwOk ws = true) (h2 : dpOk vs = true) : bulk (dX ws vs way) ≤ 432 := by
  have h3 := (dwOk_is h).1.2
  have h4 := (dpOk_is h2).1.2
  have := sumK_le (xss := dX ws vs way) (b := 8) (fun i hi => by rw [dX_length] at hi; rw [dX_get hi, dRow_length]; exact h3) _ (Nat.le_refl _)
  unfold bulk
  rw [dX_length] at *
  omega
end
end Go.Proofs.Ytnclpojljgpadaa


namespace Go.Proofs.Ytnclpojljgpadaa
open Go.RowKit

set_option maxRecDepth 20000
attribute [local irreducible] D9 D7 UU WW W9
def u24 : Rat := 1 / 16777216
theorem ex_pw2 {v : Rat} (h0 : 0 ≤ v) : ∀ n : Nat, v ≤ ((2 ^ n : Nat) : Rat) → ∃ k K, pw2 k K ∧ k ≤ n ∧ v ≤ K ∧ K ≤ 1 + 2 * v
  | 0, h => ⟨0, 1, rfl, Nat.le_refl _, h, by grind⟩
  | n + 1, h => by
    by_cases h1 : v ≤ ((2 ^ n : Nat) : Rat)
    · obtain ⟨k, K, a, b, c, d⟩ := ex_pw2 h0 n h1
      exact ⟨k, K, a, by omega, c, d⟩
    · refine ⟨n + 1, ((2 ^ (n + 1) : Nat) : Rat), rfl, Nat.le_refl _, h, ?_⟩
      rw [Nat.pow_succ, Rat.natCast_mul]
      have : ((2 : Nat) : Rat) = 2 := rfl
      rw [this]
      grind
theorem big60 {B : Rat} (h : B ≤ 1000000000000000000) : B ≤ ((2 ^ 60 : Nat) : Rat) := by
  have : ((2 ^ 60 : Nat) : Rat) = 1152921504606846976 := by rfl
  rw [this]; grind
def nr (x : Nat) (v E : Rat) : Prop := ∃ z, qv x z ∧ Rg (z - v) E
section
variable {x y : Nat} {p q v w A B E F G : Rat}
theorem nr.of (h : qv x v) : nr x v 0 := ⟨v, h, by unfold Rg; constructor <;> grind⟩
theorem nr.mono (h : nr x v E) (hE : E ≤ F) : nr x v F := by obtain ⟨z, a, b⟩ := h; exact ⟨z, a, b.mono hE⟩
theorem Rg.nn (h : Rg p B) : 0 ≤ B := by obtain ⟨h1, h2⟩ := h; grind
theorem rd_add (hx : qv x p) (hy : qv y q) (h : Rg (p + q) B) (hB : B ≤ 1000000000000000000) : ∃ z, qv (fop .add .f32 x y) z ∧ Rg (z - (p + q)) ((1 + 2 * B) * u24) := by
  obtain ⟨k, K, a, b, c, d⟩ := ex_pw2 h.nn 60 (big60 hB)
  obtain ⟨h1, h2⟩ := h
  obtain ⟨z, z1, z2, z3⟩ := qv_add a (by omega) hx hy (by grind) (by grind)
  refine ⟨z, z1, ?_⟩
  unfold u24 Rg
  constructor <;> grind
theorem rd_sub (hx : qv x p) (hy : qv y q) (h : Rg (p - q) B) (hB : B ≤ 1000000000000000000) : ∃ z, qv (fop .sub .f32 x y) z ∧ Rg (z - (p - q)) ((1 + 2 * B) * u24) := by
  obtain ⟨k, K, a, b, c, d⟩ := ex_pw2 h.nn 60 (big60 hB)
  obtain ⟨h1, h2⟩ := h
  obtain ⟨z, z1, z2, z3⟩ := qv_sub a (by omega) hx hy (by grind) (by grind)
  refine ⟨z, z1, ?_⟩
  unfold u24 Rg
  constructor <;> grind
theorem rd_mul (hx : qv x p) (hy : qv y q) (h : Rg (p * q) B) (hB : B ≤ 1000000000000000000) : ∃ z, qv (fop .mul .f32 x y) z ∧ Rg (z - p * q) ((1 + 2 * B) * u24) := by
  obtain ⟨k, K, a, b, c, d⟩ := ex_pw2 h.nn 60 (big60 hB)
  obtain ⟨h1, h2⟩ := h
  obtain ⟨z, z1, z2, z3⟩ := qv_mul a (by omega) hx hy (by grind) (by grind)
  refine ⟨z, z1, ?_⟩
  unfold u24 Rg
  constructor <;> grind
theorem nr_add (hx : nr x v E) (hy : nr y w F) (hv : Rg (v + w) A) (hA : A + E + F ≤ 1000000000000000000) (hG : E + F + (1 + 2 * (A + E + F)) * u24 ≤ G) : nr (fop .add .f32 x y) (v + w) G := by
  obtain ⟨p, p1, p2⟩ := hx
  obtain ⟨q, q1, q2⟩ := hy
  have h : Rg (p + q) (A + E + F) := by
    obtain ⟨a1, a2⟩ := p2; obtain ⟨b1, b2⟩ := q2; obtain ⟨c1, c2⟩ := hv
    constructor <;> grind
  obtain ⟨z, z1, z2⟩ := rd_add p1 q1 h hA
  refine ⟨z, z1, ?_⟩
  obtain ⟨a1, a2⟩ := p2; obtain ⟨b1, b2⟩ := q2; obtain ⟨c1, c2⟩ := z2
  constructor <;> grind
theorem nr_sub (hx : nr x v E) (hy : nr y w F) (hv : Rg (v - w) A) (hA : A + E + F ≤ 1000000000000000000) (hG : E + F + (1 + 2 * (A + E + F)) * u24 ≤ G) : nr (fop .sub .f32 x y) (v - w) G := by
  obtain ⟨p, p1, p2⟩ := hx
  obtain ⟨q, q1, q2⟩ := hy
  have h : Rg (p - q) (A + E + F) := by
    obtain ⟨a1, a2⟩ := p2; obtain ⟨b1, b2⟩ := q2; obtain ⟨c1, c2⟩ := hv
    constructor <;> grind
  obtain ⟨z, z1, z2⟩ := rd_sub p1 q1 h hA
  refine ⟨z, z1, ?_⟩
  obtain ⟨a1, a2⟩ := p2; obtain ⟨b1, b2⟩ := q2; obtain ⟨c1, c2⟩ := z2
  constructor <;> grind
theorem nr_mul (hx : nr x v E) (hy : nr y w F) (hv : Rg v A) (hw : Rg w B) (hA : (A + E) * (B + F) ≤ 1000000000000000000) (hG : A * F + E * B + E * F + (1 + 2 * ((A + E) * (B + F))) * u24 ≤ G) : nr (fop .mul .f32 x y) (v * w) G := by
  obtain ⟨p, p1, p2⟩ := hx
  obtain ⟨q, q1, q2⟩ := hy
  have e1 : Rg p (A + E) := by
    obtain ⟨a1, a2⟩ := p2; obtain ⟨c1, c2⟩ := hv
    constructor <;> grind
  have e2 : Rg q (B + F) := by
    obtain ⟨a1, a2⟩ := q2; obtain ⟨c1, c2⟩ := hw
    constructor <;> grind
  obtain ⟨z, z1, z2⟩ := rd_mul p1 q1 (rmul e1 e2) hA
  refine ⟨z, z1, ?_⟩
  have f1 := rmul hv q2
  have f2 := rmul p2 hw
  have f3 := rmul p2 q2
  have e : z - v * w = (z - p * q) + (v * (q - w) + (p - v) * w + (p - v) * (q - w)) := by grind
  rw [e]
  exact (z2.add ((f1.add f2).add f3)).mono (by grind)
theorem qv_quo {K : Rat} {k : Nat} (hK : pw2 k K) (hk : k ≤ 70) (hx : qv x p) (hy : qv y q) (hq : 0 < q) (h1 : -(K * q) ≤ 2 * p) (h2 : 2 * p ≤ K * q) : ∃ z, qv (fop .quo .f32 x y) z ∧ p - 2 * K * u24 * q ≤ z * q ∧ z * q ≤ p + 2 * K * u24 * q := by
  obtain ⟨X, hX, eX⟩ := hx
  obtain ⟨Y, hY, eY⟩ := hy
  obtain ⟨J, hJ, rfl⟩ := pw2_int hK
  have hw := WW_is
  have hp := WW_pos
  have hY0 : 0 < Y := by
    have := Rat.mul_pos hq hp
    rw [← eY] at this
    exact (Rat.intCast_lt_intCast (a := 0)).1 this
  obtain ⟨Z, z1, z2, z3⟩ := er_quo k hJ hk hX hY hY0
    (i_of_q (a := -((J : Rat) * q)) (b := 2 * p) (by push_cast; grind) (by push_cast; grind) h1) (i_of_q (a := 2 * p) (b := (J : Rat) * q) (by push_cast; grind) (by push_cast; grind) h2)
  refine ⟨(Z : Rat) / WW, ⟨Z, z1, by grind⟩, q_of_i2 ?_ ?_ z2, q_of_i2 ?_ ?_ z3⟩
  · unfold u24; push_cast; grind
  · push_cast; grind
  · push_cast; grind
  · unfold u24; push_cast; grind
theorem rd_quo (hx : qv x p) (hy : qv y q) (hq : 0 < q) (h1 : -(B * q) ≤ p) (h2 : p ≤ B * q) (h0 : 0 ≤ B) (hB : 2 * B ≤ 1000000000000000000) : ∃ z, qv (fop .quo .f32 x y) z ∧ p - 2 * (1 + 4 * B) * u24 * q ≤ z * q ∧ z * q ≤ p + 2 * (1 + 4 * B) * u24 * q := by
  obtain ⟨k, K, a, b, c, d⟩ := ex_pw2 (v := 2 * B) (by grind) 60 (big60 hB)
  have e1 := Rat.mul_le_mul_of_nonneg_right c (Rat.le_of_lt hq)
  obtain ⟨z, z1, z2, z3⟩ := qv_quo a (by omega) hx hy hq (by grind) (by grind)
  have e2 := Rat.mul_le_mul_of_nonneg_right d (Rat.le_of_lt hq)
  refine ⟨z, z1, ?_, ?_⟩
  · unfold u24 at *; grind
  · unfold u24 at *; grind
/-! ### exact zeros -/
theorem qv_apx0 (h : qv x 0) : apx x 0 := by
  obtain ⟨X, hX, eX⟩ := h
  rw [Rat.zero_mul] at eX
  have : X = 0 := Rat.intCast_inj.1 eX
  rw [← this]; exact hX
theorem apx_qv0 (h : apx x 0) : qv x 0 := ⟨0, h, by rw [Rat.zero_mul]; rfl⟩
theorem qv_sub_eq (hx : qv x p) (hy : qv y p) : qv (fop .sub .f32 x y) 0 := by
  obtain ⟨X, hX, eX⟩ := hx
  obtain ⟨Y, hY, eY⟩ := hy
  have e : X = Y := Rat.intCast_inj.1 (eX.trans eY.symm)
  subst e
  obtain ⟨s, M, q, e1, e2, e3, e4⟩ := sum_units hX.2.1 hY.2.1 true
  simp only [if_true] at e1 e2 e3 e4
  rw [hX.2.2, hY.2.2] at e2 e3 e4
  have h0 : X + -X = 0 := by omega
  rw [h0] at e2 e3 e4
  have := dy_write (k := .f32) (s := s) (M := M) (q := q) (X := 0) (v := 0) e2 (by rw [Int.zero_mul]) e3 e4 (by decide)
  have hw : fop .sub .f32 x y = FloatKind.f32.format.write (.number s M (FloatKind.f32.format.leastPlace + (q : Int))) := by
    show ((((FloatKind.f32.format.read x).sum (FloatKind.f32.format.read y).opposite).map FloatKind.f32.format.write).getD (qn .f32)) = _
    rw [e1]; rfl
  rw [hw]
  have h2 := apx_dy this
  rw [Int.zero_mul] at h2
  exact apx_qv0 h2
theorem qv_mul0 (hx : qv x 0) (hy : qv y q) : qv (fop .mul .f32 x y) 0 := by
  obtain ⟨Y, hY, _⟩ := hy
  have hX := qv_apx0 hx
  obtain ⟨m, e, a1, a2⟩ := read_number FloatKind.f32.format hX.2.1
  obtain ⟨n, d, b1, b2⟩ := read_number FloatKind.f32.format hY.2.1
  rw [hX.units, Int.natAbs_zero] at a2
  have hm : m = 0 := by
    rcases Nat.eq_zero_or_pos m with h | h
    · exact h
    · have := Nat.mul_pos h (pow_pos' e); omega
  subst hm
  have hw : fop .mul .f32 x y = FloatKind.f32.format.word (sgn FloatKind.f32.format x ^^ sgn FloatKind.f32.format y) 0 := by
    unfold fop floatBits Ieee.Format.mul
    simp only [a1, b1, Ieee.Datum.product, Option.map_some, Option.getD_some]
    show FloatKind.f32.format.nearest _ _ _ = _
    unfold Ieee.Format.nearest
    rw [if_pos (Nat.zero_mul _)]
  rw [hw]
  have := er_word (sgn FloatKind.f32.format x ^^ sgn FloatKind.f32.format y) (r := 0) (by decide)
  rw [(units_zero FloatKind.f32.format).2 rfl] at this
  exact apx_qv0 (by simpa using this)
theorem qv_add00 (hx : qv x 0) (hy : qv y 0) : qv (fop .add .f32 x y) 0 := by
  have h1 := qv_apx0 hx
  have h2 := qv_apx0 hy
  have d1 : dy .f32 x 0 := ⟨h1.1, h1.2.1, by rw [h1.2.2, Int.zero_mul]⟩
  have d2 : dy .f32 y 0 := ⟨h2.1, h2.2.1, by rw [h2.2.2, Int.zero_mul]⟩
  have := apx_dy (dy_add d1 d2 (by decide))
  rw [Int.add_zero, Int.zero_mul] at this
  exact apx_qv0 this
end
/-- The three numbers of a vector. -/
structure qv3 (w : V3) (a b c : Rat) : Prop where
  x : qv w.1 a
  y : qv w.2.1 b
  z : qv w.2.2 c
structure nr3 (w : V3) (a b c E : Rat) : Prop where
  x : nr w.1 a E
  y : nr w.2.1 b E
  z : nr w.2.2 c E
section
variable {a b p r s : V3} {a1 a2 a3 b1 b2 b3 p1 p2 p3 r1 r2 r3 s1 s2 s3 A E : Rat}
/-- A place that is the end of a segment: no field. -/
theorem long_0 (h : qv3 r 0 0 0) : qv (long3 r) 0 := qv_sqrt0 (qv_add00 (qv_add00 (qv_mul0 h.x h.x) (qv_mul0 h.y h.y)) (qv_mul0 h.z h.z))
theorem sub_0 (hp : qv3 p a1 a2 a3) (ha : qv3 a a1 a2 a3) : qv3 (sub3 p a) 0 0 0 := ⟨qv_sub_eq hp.x ha.x, qv_sub_eq hp.y ha.y, qv_sub_eq hp.z ha.z⟩
theorem qv_mul0r {x y : Nat} {p : Rat} (hx : qv x p) (hy : qv y 0) : qv (fop .mul .f32 x y) 0 := by
  rw [fmul_comm]; exact qv_mul0 hy hx
theorem sub_nr (hp : qv3 p p1 p2 p3) (ha : qv3 a a1 a2 a3) (h1 : Rg (p1 - a1) 6) (h2 : Rg (p2 - a2) 6) (h3 : Rg (p3 - a3) 6) : nr3 (sub3 p a) (p1 - a1) (p2 - a2) (p3 - a3) (13 * u24) :=
  ⟨nr_sub (.of hp.x) (.of ha.x) h1 (by decide +kernel) (by decide +kernel), nr_sub (.of hp.y) (.of ha.y) h2 (by decide +kernel) (by decide +kernel), nr_sub (.of hp.z) (.of ha.z) h3 (by decide +kernel) (by decide +kernel)⟩
theorem mul_nr6 {x y : Nat} {v w : Rat} (hx : nr x v (13 * u24)) (hy : nr y w (13 * u24)) (h1 : Rg v 6) (h2 : Rg w 6) : nr (fop .mul .f32 x y) (v * w) (230 * u24) := nr_mul hx hy h1 h2 (by decide +kernel) (by decide +kernel)
structure Rg3 (a b c A : Rat) : Prop where
  x : Rg a A
  y : Rg b A
  z : Rg c A
theorem r36 {v w : Rat} (h1 : Rg v 6) (h2 : Rg w 6) : Rg (v * w) 36 := by
  have := rmul h1 h2
  have e : (6 : Rat) * 6 = 36 := by decide +kernel
  rwa [e] at this
theorem inner_nr (hr : nr3 r r1 r2 r3 (13 * u24)) (hs : nr3 s s1 s2 s3 (13 * u24)) (h1 : Rg3 r1 r2 r3 6) (h2 : Rg3 s1 s2 s3 6) : nr (inner3 r s) (r1 * s1 + r2 * s2 + r3 * s3) (1060 * u24) := by
  have a1 := r36 h1.x h2.x
  have a2 := r36 h1.y h2.y
  have a3 := r36 h1.z h2.z
  have e1 : (36 : Rat) + 36 = 72 := by decide +kernel
  have e2 : (72 : Rat) + 36 = 108 := by decide +kernel
  have b1 := a1.add a2
  rw [e1] at b1
  have b2 := b1.add a3
  rw [e2] at b2
  exact nr_add (E := 606 * u24) (nr_add (mul_nr6 hr.x hs.x h1.x h2.x) (mul_nr6 hr.y hs.y h1.y h2.y) b1 (by decide +kernel) (by decide +kernel)) (mul_nr6 hr.z hs.z h1.z h2.z) b2 (by decide +kernel) (by decide +kernel)
theorem cross_nr (hr : nr3 r r1 r2 r3 (13 * u24)) (hs : nr3 s s1 s2 s3 (13 * u24)) (h1 : Rg3 r1 r2 r3 6) (h2 : Rg3 s1 s2 s3 6) : nr3 (cross3 r s) (r2 * s3 - r3 * s2) (r3 * s1 - r1 * s3) (r1 * s2 - r2 * s1) (610 * u24) := by
  have e1 : (36 : Rat) + 36 = 72 := by decide +kernel
  have key : ∀ {x y z w : Nat} {a b c d : Rat}, nr x a (13 * u24) → nr y b (13 * u24) → nr z c (13 * u24) → nr w d (13 * u24) → Rg a 6 → Rg b 6 → Rg c 6 → Rg d 6 → nr (fop .sub .f32 (fop .mul .f32 x y) (fop .mul .f32 z w)) (a * b - c * d) (610 * u24) := by
    intro x y z w a b c d ha hb hc hd ka kb kc kd
    have g := (r36 ka kb).sub (r36 kc kd)
    rw [e1] at g
    exact nr_sub (mul_nr6 ha hb ka kb) (mul_nr6 hc hd kc kd) g (by decide +kernel) (by decide +kernel)
  exact ⟨key hr.y hs.z hr.z hs.y h1.y h2.z h1.z h2.y, key hr.z hs.x hr.x hs.z h1.z h2.x h1.x h2.z, key hr.x hs.y hr.y hs.x h1.x h2.y h1.y h2.x⟩
/-- The length of a difference, by its square. -/
theorem long_nr {R : Rat} (hr : nr3 r r1 r2 r3 (13 * u24)) (h1 : Rg3 r1 r2 r3 6) (hR : R = r1 * r1 + r2 * r2 + r3 * r3) (h0 : 1060 * u24 ≤ R) : ∃ X, qv (long3 r) X ∧ R - 2410 * u24 ≤ X * X ∧ X * X ≤ R + 2410 * u24 ∧ -(64 * u24) ≤ X ∧ X ≤ 21 / 2 := by
  obtain ⟨v, v1, v2, v3⟩ := inner_nr hr hr h1 h1
  rw [← hR] at v2 v3
  have q1 := r36 h1.x h1.x
  have q2 := r36 h1.y h1.y
  have q3 := r36 h1.z h1.z
  have hb : R ≤ 108 := by obtain ⟨_, q1⟩ := q1; obtain ⟨_, q2⟩ := q2; obtain ⟨_, q3⟩ := q3; grind
  have hu : 1060 * u24 ≤ 1 := by decide +kernel
  clear hR q1 q2 q3
  have hv9 : v ≤ 109 := by grind
  obtain ⟨X, ω, x1, x2, x3, x4, x5, x6⟩ := qv_sqrt (k := 4) (K := 16) rfl (by decide) v1 (by grind) (by grind)
  have hω : ω ≤ 209 / 20 := rsq_le (by decide +kernel) (Rat.le_trans x3 (Rat.le_trans hv9 (by decide +kernel)))
  have hX : X ≤ 21 / 2 := by grind
  have hδ : (16 : Rat) / 4194304 = 64 * u24 := by decide +kernel
  rw [hδ] at x4 x5 x6
  have hu0 : 0 ≤ u24 := by decide +kernel
  have m1 := rsq_mono x5 (Rat.le_refl : X + 64 * u24 ≤ X + 64 * u24)
  have hXX : X * X ≤ (ω + 64 * u24) * (ω + 64 * u24) := by
    rcases (Rat.le_total : 0 ≤ X ∨ X ≤ 0) with h | h
    · exact rsq_mono h x4
    · have e : X * X = (-X) * (-X) := by grind
      rw [e]
      exact rsq_mono (by grind) (by grind)
  have k1 : ω * u24 ≤ 209 / 20 * u24 := Rat.mul_le_mul_of_nonneg_right hω hu0
  have k2 : X * u24 ≤ 21 / 2 * u24 := Rat.mul_le_mul_of_nonneg_right hX hu0
  have k3 : u24 * u24 ≤ 1 / 16777216 * u24 := Rat.mul_le_mul_of_nonneg_right (by decide +kernel) hu0
  refine ⟨X, x1, ?_, ?_, by grind, hX⟩
  · have e : (X + 64 * u24) * (X + 64 * u24) = X * X + 128 * (X * u24) + 4096 * (u24 * u24) := by grind
    rw [e] at x6
    grind
  · have e : (ω + 64 * u24) * (ω + 64 * u24) = ω * ω + 128 * (ω * u24) + 4096 * (u24 * u24) := by grind
    rw [e] at hXX
    grind
end
end Go.Proofs.Ytnclpojljgpadaa


namespace Go.Proofs.Ytnclpojljgpadaa
open Go.RowKit

set_option maxRecDepth 20000
attribute [local irreducible] D9 D7 UU WW W9
theorem qv_fin {x : Nat} {p : Rat} (h : qv x p) : fin x = true := by
  obtain ⟨Z, hZ, e1⟩ := qv_sub_eq h h
  obtain ⟨O, hO, e2⟩ := qv_zero
  rw [Rat.zero_mul] at e1 e2
  have e3 : Z = O := Rat.intCast_inj.1 (e1.trans e2.symm)
  unfold fin
  show (FloatKind.f32.format.order _ 0 == some .eq) = true
  rw [qv_cmp hZ hO, e3, compare_eq.2 rfl]; rfl
theorem abs_ex (κ : Rat) : ∃ k : Rat, 0 ≤ k ∧ k * k = κ * κ ∧ Rg κ k := by
  rcases (Rat.le_total : 0 ≤ κ ∨ κ ≤ 0) with h | h
  · exact ⟨κ, h, rfl, by unfold Rg; constructor <;> grind⟩
  · exact ⟨-κ, by grind, by grind, by unfold Rg; constructor <;> grind⟩
theorem pos_sq {X c : Rat} (_ : 0 < c) (h : c * c ≤ X * X) (h2 : -c < X) : c ≤ X := by
  rcases (Rat.le_total : c ≤ X ∨ X ≤ c) with h1 | h1
  · exact h1
  · rcases (Rat.le_total : 0 ≤ X ∨ X ≤ 0) with h3 | h3
    · exact rsq_le h3 h
    · have : c ≤ -X := rsq_le (by grind) (by grind)
      grind
/-- What the quotient is, from above. -/
theorem quo_up {z h D L s : Rat} {B : Rat} (hB : B = h / D) (hL : 0 < L) (hD : 999 / 1000 * L ≤ D) (hh : h ≤ s * (100002 / 100000)) (hs : 0 ≤ s) (h1 : D * z ≤ h + 2 * (1 + 4 * B) * u24 * D) : ∃ ζ, 0 ≤ ζ ∧ z ≤ ζ + 2 * u24 ∧ ζ * L ≤ 1002 / 1000 * s := by
  have hD0 : 0 < D := by grind
  have e : B * D = h := by rw [hB]; grind
  have e2 : 2 * (1 + 4 * B) * u24 * D = 2 * u24 * D + 8 * u24 * h := by grind
  rw [e2] at h1
  have hu : 8 * u24 ≤ 1 / 100000 := by decide +kernel
  rcases (Rat.le_total : z ≤ 2 * u24 ∨ 2 * u24 ≤ z) with g | g
  · exact ⟨0, Rat.le_refl, by grind, by grind⟩
  · refine ⟨z - 2 * u24, by grind, by grind, ?_⟩
    have k1 : D * (z - 2 * u24) ≤ h * (1 + 8 * u24) := by grind
    have k2 : 999 / 1000 * L * (z - 2 * u24) ≤ D * (z - 2 * u24) := Rat.mul_le_mul_of_nonneg_right hD (by grind)
    have k3 : h * (1 + 8 * u24) ≤ s * (100002 / 100000) * (1 + 8 * u24) := Rat.mul_le_mul_of_nonneg_right hh (by decide +kernel)
    have k4 : s * (100002 / 100000) * (1 + 8 * u24) ≤ s * (100002 / 100000) * (100001 / 100000) := Rat.mul_le_mul_of_nonneg_left (by grind) (by grind)
    grind
/-- One number of the product with the quotient. -/
theorem seg_num {c q : Nat} {κ z ζ L s N : Rat} (hq : qv q z) (hz0 : -(2 * u24) ≤ z) (hz : z ≤ ζ + 2 * u24) (hζ : 0 ≤ ζ) (hL : 0 < L) (hζL : ζ * L ≤ 1002 / 1000 * s) (hs : 0 ≤ s) (hsL : s ≤ 1000 * L) (hc : nr c κ (610 * u24)) (hκ : Rg κ 73) (hN : s * s * N ≤ 1681 * (L * L)) (hκN : κ * κ ≤ N) : ∃ f, qv (fop .mul .f32 c q) f ∧ Rg f 42 := by
  obtain ⟨y, y1, y2⟩ := hc
  obtain ⟨k, k0, k1, k2⟩ := abs_ex κ
  have hk73 : k ≤ 73 := rsq_le (by decide +kernel) (by
    rw [k1]
    obtain ⟨a, b⟩ := hκ
    rcases (Rat.le_total : 0 ≤ κ ∨ κ ≤ 0) with h | h
    · exact rsq_mono h b
    · have e : κ * κ = (-κ) * (-κ) := by grind
      rw [e]; exact rsq_mono (by grind) (by grind))
  -- s k ≤ 41 L
  have h1 : s * k ≤ 41 * L := rsq_le (by grind) (by
    have e1 : s * k * (s * k) = s * s * (κ * κ) := by grind
    have e2 : 41 * L * (41 * L) = 1681 * (L * L) := by grind
    rw [e1, e2]
    exact Rat.le_trans (Rat.mul_le_mul_of_nonneg_left hκN (by have := Rat.mul_nonneg hs hs; exact this)) hN)
  have h2 : ζ * k ≤ 411 / 10 := by
    refine Rat.le_of_mul_le_mul_right (c := L) ?_ hL
    have := Rat.mul_le_mul_of_nonneg_right hζL k0
    grind
  have h3 : ζ ≤ 1002 := by
    refine Rat.le_of_mul_le_mul_right (c := L) ?_ hL
    grind
  have hu0 : 0 ≤ u24 := by decide +kernel
  have hz9 : Rg z (ζ + 2 * u24) := ⟨by grind, hz⟩
  have hy9 : Rg y (k + 610 * u24) := by
    obtain ⟨a, b⟩ := y2; obtain ⟨c, d⟩ := k2
    constructor <;> grind
  have hb : (k + 610 * u24) * (ζ + 2 * u24) ≤ 412 / 10 := by
    have e : (k + 610 * u24) * (ζ + 2 * u24) = ζ * k + 610 * u24 * ζ + 2 * u24 * k + 1220 * u24 * u24 := by grind
    rw [e]
    have g1 : 610 * u24 * ζ ≤ 610 * u24 * 1002 := Rat.mul_le_mul_of_nonneg_left h3 (by decide +kernel)
    have g2 : 2 * u24 * k ≤ 2 * u24 * 73 := Rat.mul_le_mul_of_nonneg_left hk73 (by decide +kernel)
    have g3 : 610 * u24 * 1002 + 2 * u24 * 73 + 1220 * u24 * u24 ≤ 1 / 10 := by decide +kernel
    grind
  obtain ⟨f, f1, f2⟩ := rd_mul y1 hq ((rmul hy9 hz9).mono hb) (by decide +kernel)
  refine ⟨f, f1, ?_⟩
  have g4 : (1 + 2 * (412 / 10)) * u24 ≤ 1 / 10 := by decide +kernel
  obtain ⟨a, b⟩ := f2
  obtain ⟨c, d⟩ := (rmul hy9 hz9).mono hb
  constructor <;> grind
section
variable {a b p : V3} {a1 a2 a3 b1 b2 b3 p1 p2 p3 R S T g G : Rat}
/-- Less what rounding may take. -/
def eW : Rat := 1730 * u24
def eR : Rat := 2410 * u24
theorem seg_bound (hp : qv3 p p1 p2 p3) (ha : qv3 a a1 a2 a3) (hb : qv3 b b1 b2 b3) (h1 : Rg3 (p1 - a1) (p2 - a2) (p3 - a3) 6) (h2 : Rg3 (p1 - b1) (p2 - b2) (p3 - b3) 6)
    (hR : R = (p1 - a1) * (p1 - a1) + (p2 - a2) * (p2 - a2) + (p3 - a3) * (p3 - a3)) (hS : S = (p1 - b1) * (p1 - b1) + (p2 - b2) * (p2 - b2) + (p3 - b3) * (p3 - b3)) (hT : T = (p1 - a1) * (p1 - b1) + (p2 - a2) * (p2 - b2) + (p3 - a3) * (p3 - b3))
    (hR0 : 1 / 64 ≤ R) (hS0 : 1 / 64 ≤ S) (g0 : 1 / 16 ≤ g) (hg : g * g ≤ (R - eR) * (S - eR)) (hG0 : 0 ≤ G) (hG : (R + eR) * (S + eR) ≤ G * G) (hW : 0 < g + T - eW)
    (hQ : R + S + 2 * eR + 2 * G ≤ 1000000 * (g * (g + T - eW) * (g * (g + T - eW)))) (hN : (R + S + 2 * eR + 2 * G) * (R * S - T * T) ≤ 1681 * (g * (g + T - eW) * (g * (g + T - eW)))) :
    ∃ f1 f2 f3, qv3 (segF a b p) f1 f2 f3 ∧ Rg3 f1 f2 f3 42 := by
  have hr := sub_nr hp ha h1.x h1.y h1.z
  have hs := sub_nr hp hb h2.x h2.y h2.z
  have e64 : 1060 * u24 ≤ 1 / 64 := by decide +kernel
  obtain ⟨X, x1, x2, x3, x4, x5⟩ := long_nr hr h1 hR (Rat.le_trans e64 hR0)
  obtain ⟨Y, y1, y2, y3, y4, y5⟩ := long_nr hs h2 hS (Rat.le_trans e64 hS0)
  obtain ⟨t, t1, t2⟩ := inner_nr hr hs h1 h2
  rw [← hT] at t2
  obtain ⟨c1, c2, c3⟩ := cross_nr hr hs h1 h2
  have hT108 : Rg T 108 := by
    have q1 := (r36 h1.x h2.x).add (r36 h1.y h2.y)
    have q2 := q1.add (r36 h1.z h2.z)
    rw [← hT] at q2
    exact q2.mono (by decide +kernel)
  have hlag : R * S - T * T = ((p2 - a2) * (p3 - b3) - (p3 - a3) * (p2 - b2)) * ((p2 - a2) * (p3 - b3) - (p3 - a3) * (p2 - b2)) + ((p3 - a3) * (p1 - b1) - (p1 - a1) * (p3 - b3)) * ((p3 - a3) * (p1 - b1) - (p1 - a1) * (p3 - b3)) + ((p1 - a1) * (p2 - b2) - (p2 - a2) * (p1 - b1)) * ((p1 - a1) * (p2 - b2) - (p2 - a2) * (p1 - b1)) := by
    rw [hR, hS, hT]; grind
  have kb : ∀ {q r s t : Rat}, Rg q 6 → Rg r 6 → Rg s 6 → Rg t 6 → Rg (q * r - s * t) 73 := fun h1 h2 h3 h4 => ((r36 h1 h2).sub (r36 h3 h4)).mono (by decide +kernel)
  have K1 := kb h1.y h2.z h1.z h2.y
  have K2 := kb h1.z h2.x h1.x h2.z
  have K3 := kb h1.x h2.y h1.y h2.x
  generalize (p2 - a2) * (p3 - b3) - (p3 - a3) * (p2 - b2) = κ1 at *
  generalize (p3 - a3) * (p1 - b1) - (p1 - a1) * (p3 - b3) = κ2 at *
  generalize (p1 - a1) * (p2 - b2) - (p2 - a2) * (p1 - b1) = κ3 at *
  clear hR hS hT hr hs
  have sq0 : ∀ κ : Rat, 0 ≤ κ * κ := fun κ => by
    obtain ⟨k, k0, k1, _⟩ := abs_ex κ
    rw [← k1]; exact Rat.mul_nonneg k0 k0
  have s1 := sq0 κ1
  have s2 := sq0 κ2
  have s3 := sq0 κ3
  generalize hNN : R * S - T * T = N at *
  have n1 : κ1 * κ1 ≤ N := by grind
  have n2 : κ2 * κ2 ≤ N := by grind
  have n3 : κ3 * κ3 ≤ N := by grind
  clear hlag s1 s2 s3
  have eR9 : eR = 2410 * u24 := rfl
  have eW9 : eW = 1730 * u24 := rfl
  rw [← eR9] at x2 x3 y2 y3
  have eR1 : eR ≤ 1 / 1000 := by decide +kernel
  have eR0 : 0 ≤ eR := by decide +kernel
  have hX : 12 / 100 ≤ X := pos_sq (by decide +kernel) (Rat.le_trans (show (12 / 100 : Rat) * (12 / 100) ≤ R - eR by
    have : (12 / 100 : Rat) * (12 / 100) ≤ 1 / 64 - 1 / 1000 := by decide +kernel
    grind) x2) (by have : 64 * u24 ≤ 1 / 1000 := by decide +kernel
                   grind)
  have hY : 12 / 100 ≤ Y := pos_sq (by decide +kernel) (Rat.le_trans (show (12 / 100 : Rat) * (12 / 100) ≤ S - eR by
    have : (12 / 100 : Rat) * (12 / 100) ≤ 1 / 64 - 1 / 1000 := by decide +kernel
    grind) y2) (by have : 64 * u24 ≤ 1 / 1000 := by decide +kernel
                   grind)
  have hX0 : 0 ≤ X := by grind
  have hY0 : 0 ≤ Y := by grind
  have hXY0 : 0 ≤ X * Y := Rat.mul_nonneg hX0 hY0
  have exy : X * X * (Y * Y) = X * Y * (X * Y) := by grind
  have hgXY : g ≤ X * Y := rsq_le hXY0 (by
    rw [← exy]
    have k1 := Rat.mul_le_mul_of_nonneg_right x2 (show 0 ≤ S - eR by grind)
    have k2 := Rat.mul_le_mul_of_nonneg_left y2 (Rat.mul_nonneg hX0 hX0)
    exact Rat.le_trans hg (Rat.le_trans k1 k2))
  have hXYG : X * Y ≤ G := rsq_le hG0 (by
    rw [← exy]
    have k1 := Rat.mul_le_mul_of_nonneg_right x3 (Rat.mul_nonneg hY0 hY0)
    have k2 := Rat.mul_le_mul_of_nonneg_left y3 (show 0 ≤ R + eR by grind)
    exact Rat.le_trans (Rat.le_trans k1 k2) hG)
  have hXYb : Rg (X * Y) (441 / 4) := (rmul (A := 21 / 2) (B := 21 / 2) ⟨by grind, x5⟩ ⟨by grind, y5⟩).mono (by decide +kernel)
  obtain ⟨M, m1, m2⟩ := rd_mul x1 y1 hXYb (by decide +kernel)
  obtain ⟨m3, m4⟩ := m2
  obtain ⟨t3, t4⟩ := t2
  obtain ⟨T3, T4⟩ := hT108
  have e1 : (1 + 2 * (441 / 4)) * u24 ≤ 222 * u24 := by decide +kernel
  have e2 : 2000 * u24 ≤ 1 / 1000 := by decide +kernel
  have hu0 : 0 ≤ u24 := by decide +kernel
  obtain ⟨_, xb⟩ := hXYb
  obtain ⟨w, w1, w2⟩ := rd_add m1 t1 (B := 220) ⟨by grind, by grind⟩ (by decide +kernel)
  obtain ⟨w3, w4⟩ := w2
  have e3 : (1 + 2 * 220) * u24 = 441 * u24 := by decide +kernel
  rw [e3] at w3 w4
  generalize hW0 : g + T - eW = W0 at *
  have hw : W0 ≤ w := by grind
  have hM : 3999 / 4000 * g ≤ M := by
    have e4 : 222 * u24 ≤ 1 / 4000 * (1 / 16) := by decide +kernel
    grind
  have hM9 : M ≤ 111 := by grind
  have hw9 : w ≤ 221 := by grind
  generalize hLL : g * W0 = L at *
  obtain ⟨h, h1, h2⟩ := rd_add x1 y1 (B := 21) ⟨by grind, by grind⟩ (by decide +kernel)
  have e5 : (1 + 2 * 21) * u24 = 43 * u24 := by decide +kernel
  rw [e5] at h2
  obtain ⟨h3, h4⟩ := h2
  have e6 : 43 * u24 ≤ 2 / 100000 * (24 / 100) := by decide +kernel
  have hs0 : 24 / 100 ≤ X + Y := by grind
  have hss : (X + Y) * (X + Y) ≤ R + S + 2 * eR + 2 * G := by grind
  generalize hs9 : X + Y = s at *
  have hh : h ≤ s * (100002 / 100000) := by grind
  have hh0 : 0 ≤ h := by grind
  have hL0 : 0 < L := by rw [← hLL]; exact Rat.mul_pos (by grind) hW
  have hL1 : 1 / 6000 ≤ L := rsq_le (Rat.le_of_lt hL0) (by
    have : (1 / 6000 : Rat) * (1 / 6000) * 1000000 ≤ 1 / 64 + 1 / 64 := by decide +kernel
    grind)
  have hN0 : 0 ≤ N := by have := sq0 κ1; grind
  have hsL : s ≤ 1000 * L := rsq_le (by grind) (by grind)
  have hsN : s * s * N ≤ 1681 * (L * L) := Rat.le_trans (Rat.mul_le_mul_of_nonneg_right hss hN0) hN
  clear hN hQ hss hg hG x2 x3 y2 y3 exy
  have hM0 : 0 ≤ M := by grind
  have hMw0 : 0 ≤ M * w := Rat.mul_nonneg hM0 (by grind)
  have hMw : 3999 / 4000 * L ≤ M * w := by
    have k1 := Rat.mul_le_mul_of_nonneg_right hM (show 0 ≤ w by grind)
    have k2 := Rat.mul_le_mul_of_nonneg_left hw (show 0 ≤ 3999 / 4000 * g by grind)
    rw [← hLL]
    grind
  have hMw9 : M * w ≤ 111 * 221 := by
    have k1 := Rat.mul_le_mul_of_nonneg_right hM9 (show 0 ≤ w by grind)
    grind
  obtain ⟨D, d1, d2⟩ := rd_mul m1 w1 (B := M * w) ⟨by grind, Rat.le_refl⟩ (Rat.le_trans hMw9 (by decide +kernel))
  obtain ⟨d3, d4⟩ := d2
  have hD : 999 / 1000 * L ≤ D := by
    have e7 : u24 ≤ 1 / 2000 * (1 / 6000) := by decide +kernel
    have e8 : 2 * u24 ≤ 1 / 100000 := by decide +kernel
    have k1 : 2 * u24 * (M * w) ≤ 1 / 100000 * (M * w) := Rat.mul_le_mul_of_nonneg_right e8 hMw0
    grind
  have hD0 : 0 < D := by grind
  obtain ⟨B, hB⟩ : ∃ B, B = h / D := ⟨_, rfl⟩
  have hBD : B * D = h := by rw [hB]; grind
  have hB0 : 0 ≤ B := Rat.le_of_mul_le_mul_right (c := D) (by rw [Rat.zero_mul, hBD]; exact hh0) hD0
  have hB9 : B ≤ 1000000 := by
    refine Rat.le_of_mul_le_mul_right (c := D) ?_ hD0
    rw [hBD]
    have : (1000000 : Rat) * (999 / 1000 * (1 / 6000)) ≥ 22 := by decide +kernel
    grind
  obtain ⟨z, z1, z2, z3⟩ := rd_quo h1 d1 hD0 (B := B) (by rw [hBD]; grind) (by rw [hBD]; exact Rat.le_refl) hB0 (Rat.le_trans (show 2 * B ≤ 2000000 by grind) (by decide +kernel))
  have hz0 : -(2 * u24) ≤ z := by
    refine Rat.le_of_mul_le_mul_right (c := D) ?_ hD0
    have e9 : 2 * (1 + 4 * B) * u24 * D = 2 * u24 * D + 8 * u24 * h := by rw [← hBD]; grind
    rw [e9] at z2
    have e10 : 8 * u24 * h ≤ h := by
      have : 8 * u24 ≤ 1 := by decide +kernel
      have := Rat.mul_le_mul_of_nonneg_right this hh0
      grind
    grind
  obtain ⟨ζ, q1, q2, q3⟩ := quo_up hB hL0 hD hh (by grind) (by rw [Rat.mul_comm]; exact z3)
  have hgt : fcmp .gtr .f32 (segD a b p) 0 = true := qv_gt d1 qv_zero hD0
  have hfin : fin (segQ a b p) = true := qv_fin z1
  rw [segF_yes hgt hfin]
  obtain ⟨f1, F1, G1⟩ := seg_num z1 hz0 q2 q1 hL0 q3 (by grind) hsL c1 K1 hsN n1
  obtain ⟨f2, F2, G2⟩ := seg_num z1 hz0 q2 q1 hL0 q3 (by grind) hsL c2 K2 hsN n2
  obtain ⟨f3, F3, G3⟩ := seg_num z1 hz0 q2 q1 hL0 q3 (by grind) hsL c3 K3 hsN n3
  exact ⟨f1, f2, f3, ⟨F1, F2, F3⟩, ⟨G1, G2, G3⟩⟩
end
end Go.Proofs.Ytnclpojljgpadaa


namespace Go.Proofs.Ytnclpojljgpadaa

set_option maxRecDepth 100000
def ta_isq : Nat → Nat → Nat → Nat
  | 0, _, g => g
  | k + 1, n, g => ta_isq k n ((g + n / g) / 2)
def ta_root (n : Nat) : Nat := ta_isq 7 n (2 ^ (Nat.log2 n / 2 + 1))
def ta_chk (R S L g G : Nat) : Bool :=
  Nat.ble 17592186044416 R && Nat.ble 17592186044416 S && Nat.ble 70368744177664 g && Nat.ble (g * g) ((R - 161732362240) * (S - 161732362240)) && Nat.ble ((R + 161732362240) * (S + 161732362240)) (G * G) &&
  Nat.ble (L + 232196669441) (2 * g + R + S) &&
  Nat.ble ((R + S + 323464724480 + 2 * G) * 2 ^ 152) (1000000 * (g * (2 * g + R + S - L - 232196669440)) * (g * (2 * g + R + S - L - 232196669440))) &&
  Nat.ble ((R + S + 323464724480 + 2 * G) * (4 * R * S - ((R + S - L) + (L - R - S)) * ((R + S - L) + (L - R - S))) * 2 ^ 50) (1681 * (g * (2 * g + R + S - L - 232196669440)) * (g * (2 * g + R + S - L - 232196669440)))
def ta_seg (R S L : Nat) : Bool :=
  Nat.beq R 0 || Nat.beq S 0 || ta_chk R S L (Nat.min R S - 161732362240) (Nat.max R S + 161732362240) ||
    ta_chk R S L (ta_root ((R - 161732362240) * (S - 161732362240)) - 1) (ta_root ((R + 161732362240) * (S + 161732362240)) + 1)
def ta_sq (a b : Int) : Nat := (a - b).natAbs * (a - b).natAbs
def ta_all : Nat → (Nat → Bool) → Bool
  | 0, _ => true
  | n + 1, f => f n && ta_all n f
/-- Six points in a plane, one place in it, all heights. -/
def ta_six (a0 a1 a2 a3 a4 a5 l0 l1 l2 l3 l4 l5 : Nat) : Bool :=
  ta_all 17 fun m => (fun z => ta_seg (a0 + z) (a1 + z) l0 && ta_seg (a1 + z) (a2 + z) l1 && ta_seg (a2 + z) (a3 + z) l2 && ta_seg (a3 + z) (a4 + z) l3 && ta_seg (a4 + z) (a5 + z) l4 && ta_seg (a5 + z) (a0 + z) l5) (m * m * 70368744177664)
def ta_ring (x0 y0 x1 y1 x2 y2 x3 y3 x4 y4 x5 y5 : Int) : Bool :=
  ta_all 7 fun i => ta_all 7 fun j => ta_six (ta_sq (((i : Int) - 3) * 33554432) x0 + ta_sq (((j : Int) - 3) * 33554432) y0) (ta_sq (((i : Int) - 3) * 33554432) x1 + ta_sq (((j : Int) - 3) * 33554432) y1) (ta_sq (((i : Int) - 3) * 33554432) x2 + ta_sq (((j : Int) - 3) * 33554432) y2)
    (ta_sq (((i : Int) - 3) * 33554432) x3 + ta_sq (((j : Int) - 3) * 33554432) y3) (ta_sq (((i : Int) - 3) * 33554432) x4 + ta_sq (((j : Int) - 3) * 33554432) y4) (ta_sq (((i : Int) - 3) * 33554432) x5 + ta_sq (((j : Int) - 3) * 33554432) y5)
    (ta_sq x0 x1 + ta_sq y0 y1) (ta_sq x1 x2 + ta_sq y1 y2) (ta_sq x2 x3 + ta_sq y2 y3) (ta_sq x3 x4 + ta_sq y3 y4) (ta_sq x4 x5 + ta_sq y4 y5) (ta_sq x5 x0 + ta_sq y5 y0)
theorem ta_r0 : ta_ring 33554432 0 16777212 29058992 (-16777224) 29058990 (-33554432) 0 (-16777212) (-29058992) 16777201 (-29058992) = true := by decide +kernel
theorem ta_r1 : ta_ring 41943040 0 20971516 36323740 (-20971530) 36323736 (-41943040) 0 (-20971516) (-36323740) 20971502 (-36323740) = true := by decide +kernel
theorem ta_r2 : ta_ring 50331648 0 25165818 43588488 (-25165836) 43588484 (-50331648) 0 (-25165818) (-43588488) 25165802 (-43588488) = true := by decide +kernel
theorem ta_r3 : ta_ring 58720256 0 29360120 50853236 (-29360142) 50853232 (-58720256) 0 (-29360120) (-50853236) 29360102 (-50853236) = true := by decide +kernel
theorem ta_r4 : ta_ring 67108864 0 33554424 58117984 (-33554448) 58117980 (-67108864) 0 (-33554424) (-58117984) 33554402 (-58117984) = true := by decide +kernel
theorem ta_r5 : ta_ring 75497472 0 37748728 65382732 (-37748752) 65382728 (-75497472) 0 (-37748728) (-65382732) 37748704 (-65382732) = true := by decide +kernel
theorem ta_r6 : ta_ring 83886080 0 41943032 72647480 (-41943060) 72647472 (-83886080) 0 (-41943032) (-72647480) 41943004 (-72647480) = true := by decide +kernel
theorem ta_r7 : ta_ring 92274688 0 46137332 79912224 (-46137368) 79912224 (-92274688) 0 (-46137332) (-79912224) 46137304 (-79912224) = true := by decide +kernel
end Go.Proofs.Ytnclpojljgpadaa


namespace Go.Proofs.Ytnclpojljgpadaa
open Go.RowKit

set_option maxRecDepth 20000
attribute [local irreducible] D9 D7 UU WW W9
section
variable {a b p : V3} {a1 a2 a3 b1 b2 b3 p1 p2 p3 : Rat}
theorem seg_ends (hp : qv3 p p1 p2 p3) (ha : qv3 a a1 a2 a3) (hb : qv3 b b1 b2 b3) (h1 : Rg3 (p1 - a1) (p2 - a2) (p3 - a3) 6) (h2 : Rg3 (p1 - b1) (p2 - b2) (p3 - b3) 6) (h : qv (segX a b p) 0) : segF a b p = z3 := by
  obtain ⟨t, t1, t2⟩ := inner_nr (sub_nr hp ha h1.x h1.y h1.z) (sub_nr hp hb h2.x h2.y h2.z) h1 h2
  have hT : Rg ((p1 - a1) * (p1 - b1) + (p2 - a2) * (p2 - b2) + (p3 - a3) * (p3 - b3)) 108 := (((r36 h1.x h2.x).add (r36 h1.y h2.y)).add (r36 h1.z h2.z)).mono (by decide +kernel)
  have e : 1060 * u24 ≤ 1 := by decide +kernel
  obtain ⟨w, w1, _⟩ := rd_add h t1 (B := 110) (by obtain ⟨a, b⟩ := t2; obtain ⟨c, d⟩ := hT; unfold Rg; constructor <;> grind) (by decide +kernel)
  have hD := qv_mul0 h w1
  exact segF_no1 (qv_ngt hD qv_zero Rat.le_refl)
theorem long_ex (hr : nr3 p p1 p2 p3 (13 * u24)) (h1 : Rg3 p1 p2 p3 6) (h0 : 1 / 64 ≤ p1 * p1 + p2 * p2 + p3 * p3) : ∃ X, qv (long3 p) X := by
  obtain ⟨X, x1, _⟩ := long_nr hr h1 rfl (Rat.le_trans (by decide +kernel) h0)
  exact ⟨X, x1⟩
end
def c25 : Rat := 1 / 33554432
def c50 : Rat := 1 / 1125899906842624
theorem sq_cast (a b : Int) : ((ta_sq a b : Nat) : Rat) = ((a : Rat) - b) * ((a : Rat) - b) := by
  have h : ((ta_sq a b : Nat) : Int) = (a - b) * (a - b) := by unfold ta_sq; rw [Int.natCast_mul]; exact Int.natAbs_mul_self
  have h2 : ((ta_sq a b : Nat) : Rat) = (((ta_sq a b : Nat) : Int) : Rat) := rfl
  rw [h2, h, Rat.intCast_mul, Rat.intCast_sub]
theorem ble_q {a b : Nat} (h : Nat.ble a b = true) : (a : Rat) ≤ (b : Rat) := Rat.natCast_le_natCast.2 (Nat.le_of_ble_eq_true h)
theorem sub_q {a b : Nat} (h : b ≤ a) : ((a - b : Nat) : Rat) = (a : Rat) - b := by
  have : ((a - b + b : Nat) : Rat) = (a : Rat) := by rw [Nat.sub_add_cancel h]
  rw [Rat.natCast_add] at this
  grind
/-- What a check says, in rational numbers. -/
structure Chk (R S T g G : Rat) : Prop where
  hR0 : 1 / 64 ≤ R
  hS0 : 1 / 64 ≤ S
  g0 : 1 / 16 ≤ g
  hg : g * g ≤ (R - eR) * (S - eR)
  hG0 : 0 ≤ G
  hG : (R + eR) * (S + eR) ≤ G * G
  hW : 0 < g + T - eW
  hQ : R + S + 2 * eR + 2 * G ≤ 1000000 * (g * (g + T - eW) * (g * (g + T - eW)))
  hN : (R + S + 2 * eR + 2 * G) * (R * S - T * T) ≤ 1681 * (g * (g + T - eW) * (g * (g + T - eW)))
theorem chk_sound {R S L g G : Nat} (h : ta_chk R S L g G = true) : Chk (R * c50) (S * c50) (((R : Rat) + S - L) / 2 * c50) (g * c50) (G * c50) := by
  unfold ta_chk at h
  simp only [Bool.and_eq_true] at h
  obtain ⟨⟨⟨⟨⟨⟨⟨h1, h2⟩, h3⟩, h4⟩, h5⟩, h6⟩, h7⟩, h8⟩ := h
  have n1 := Nat.le_of_ble_eq_true h1
  have n2 := Nat.le_of_ble_eq_true h2
  have n6 := Nat.le_of_ble_eq_true h6
  have q1 := ble_q h1
  have q2 := ble_q h2
  have q3 := ble_q h3
  have q4 := ble_q h4
  have q5 := ble_q h5
  obtain ⟨W, hW⟩ : ∃ W : Nat, W = 2 * g + R + S - L - 232196669440 := ⟨_, rfl⟩
  obtain ⟨V, hV⟩ : ∃ V : Nat, V = ((R + S - L) + (L - R - S)) * ((R + S - L) + (L - R - S)) := ⟨_, rfl⟩
  obtain ⟨U, hU⟩ : ∃ U : Nat, U = 4 * R * S - V := ⟨_, rfl⟩
  rw [← hW] at h7 h8
  rw [← hV, ← hU] at h8
  have q7 := ble_q h7
  have q8 := ble_q h8
  have hWq : (W : Rat) = 2 * g + R + S - L - 232196669440 := by
    rw [hW, Nat.sub_sub, sub_q (by omega)]
    push_cast
    grind
  have hW1 : (1 : Rat) ≤ W := by
    have : 1 ≤ W := by omega
    exact Rat.natCast_le_natCast.2 this
  have hVq : (V : Rat) = ((R : Rat) + S - L) * ((R : Rat) + S - L) := by
    rw [hV]
    rcases Nat.le_total L (R + S) with g1 | g1
    · have e : L - R - S = 0 := by omega
      rw [e, Nat.add_zero, Rat.natCast_mul, sub_q g1, Rat.natCast_add]
    · have e : R + S - L = 0 := by omega
      rw [e, Nat.zero_add, Nat.sub_sub, Rat.natCast_mul, sub_q g1, Rat.natCast_add]
      grind
  have hUq : 4 * (R : Rat) * S - V ≤ U := by
    have h9 : 4 * R * S ≤ U + V := by omega
    have := Rat.natCast_le_natCast.2 h9
    rw [Rat.natCast_add, Rat.natCast_mul, Rat.natCast_mul] at this
    have e : ((4 : Nat) : Rat) = 4 := rfl
    rw [e] at this
    grind
  rw [Rat.natCast_mul, Rat.natCast_mul, sub_q (by omega), sub_q (by omega)] at q4
  rw [Rat.natCast_mul, Rat.natCast_mul, Rat.natCast_add, Rat.natCast_add] at q5
  simp only [Rat.natCast_mul, Rat.natCast_add] at q7 q8
  have e1 : ((17592186044416 : Nat) : Rat) = 17592186044416 := rfl
  have e2 : ((70368744177664 : Nat) : Rat) = 70368744177664 := rfl
  have e3 : ((161732362240 : Nat) : Rat) = 161732362240 := rfl
  have e4 : ((323464724480 : Nat) : Rat) = 323464724480 := rfl
  have e5 : ((2 ^ 152 : Nat) : Rat) = 5708990770823839524233143877797980545530986496 := by decide +kernel
  have e6 : ((2 ^ 50 : Nat) : Rat) = 1125899906842624 := by decide +kernel
  have e7 : ((1000000 : Nat) : Rat) = 1000000 := rfl
  have e8 : ((1681 : Nat) : Rat) = 1681 := rfl
  have e9 : ((2 : Nat) : Rat) = 2 := rfl
  rw [e1] at q1 q2
  rw [e2] at q3
  rw [e3] at q4 q5
  rw [e4, e5, e7, e9] at q7
  rw [e4, e6, e8, e9] at q8
  have hR0 : (0 : Rat) ≤ R := Rat.natCast_nonneg
  have hS0 : (0 : Rat) ≤ S := Rat.natCast_nonneg
  have hG0 : (0 : Rat) ≤ G := Rat.natCast_nonneg
  have hg0 : (0 : Rat) ≤ g := Rat.natCast_nonneg
  have hc : 0 < c50 := by decide +kernel
  have hcc : 0 ≤ c50 * c50 := by decide +kernel
  have hc4 : 0 ≤ c50 * c50 * c50 * c50 / 4 := by decide +kernel
  have f1 : 5708990770823839524233143877797980545530986496 * (c50 * c50 * c50 * c50 / 4) = c50 := by decide +kernel
  have f2 : 1125899906842624 * (c50 * c50 * c50 * c50 / 4) = c50 * (c50 * c50 / 4) := by decide +kernel
  have f3 : eR = 161732362240 * c50 := by decide +kernel
  have f4 : eW = 116098334720 * c50 := by decide +kernel
  have f5 : 17592186044416 * c50 = 1 / 64 := by decide +kernel
  have f6 : 70368744177664 * c50 = 1 / 16 := by decide +kernel
  clear h1 h2 h3 h4 h5 h6 h7 h8 n1 n2 n6 hW hV hU e1 e2 e3 e4 e5 e6 e7 e8 e9
  generalize (R : Rat) = r at *
  generalize (S : Rat) = s at *
  generalize (L : Rat) = l at *
  generalize (g : Rat) = γ at *
  generalize (G : Rat) = Γ at *
  generalize (W : Rat) = ω at *
  generalize (U : Rat) = υ at *
  generalize (V : Rat) = ν at *
  have hWe : γ * c50 + (r + s - l) / 2 * c50 - eW = ω / 2 * c50 := by rw [f4]; grind
  have hH0 : 0 ≤ r + s + 323464724480 + 2 * Γ := by grind
  refine ⟨?_, ?_, ?_, ?_, ?_, ?_, ?_, ?_, ?_⟩
  · have := Rat.mul_le_mul_of_nonneg_right q1 (Rat.le_of_lt hc)
    rw [f5] at this; exact this
  · have := Rat.mul_le_mul_of_nonneg_right q2 (Rat.le_of_lt hc)
    rw [f5] at this; exact this
  · have := Rat.mul_le_mul_of_nonneg_right q3 (Rat.le_of_lt hc)
    rw [f6] at this; exact this
  · have := Rat.mul_le_mul_of_nonneg_right q4 hcc
    rw [f3]
    generalize c50 = c at *
    grind
  · exact Rat.mul_nonneg hG0 (Rat.le_of_lt hc)
  · have := Rat.mul_le_mul_of_nonneg_right q5 hcc
    rw [f3]
    generalize c50 = c at *
    grind
  · rw [hWe]
    exact Rat.mul_pos (by grind) hc
  · rw [hWe, f3]
    have k := Rat.mul_le_mul_of_nonneg_right q7 hc4
    rw [Rat.mul_assoc _ 5708990770823839524233143877797980545530986496 _, f1] at k
    clear f1 f2 f3 f4 f5 f6 q1 q2 q3 q4 q5 q7 q8 hUq hVq hWq
    generalize c50 = c at *
    grind
  · rw [hWe, f3]
    have k := Rat.mul_le_mul_of_nonneg_right q8 hc4
    rw [Rat.mul_assoc _ 1125899906842624 _, f2] at k
    have k2 := Rat.mul_le_mul_of_nonneg_left hUq hH0
    have k3 := Rat.mul_le_mul_of_nonneg_right k2 (show 0 ≤ c50 * (c50 * c50 / 4) by decide +kernel)
    have k4 := Rat.le_trans k3 k
    rw [hVq] at k4
    clear f1 f2 f3 f4 f5 f6 q1 q2 q3 q4 q5 q7 q8 hUq hVq hWq k k2 k3
    generalize c50 = c at *
    grind
section
variable {a b p : V3} {A1 A2 A3 B1 B2 B3 P1 P2 P3 : Int} {R S L : Nat}
theorem c25_sub (x y : Int) : (x : Rat) * c25 - y * c25 = ((x : Rat) - y) * c25 := by grind
theorem c25_rg {x y : Int} (h : (x - y).natAbs ≤ 201326592) : Rg ((x : Rat) * c25 - y * c25) 6 := by
  rw [c25_sub, ← Rat.intCast_sub]
  have h1 : x - y ≤ 201326592 := by omega
  have h2 : -201326592 ≤ x - y := by omega
  have q1 := Rat.intCast_le_intCast.2 h1
  have q2 := Rat.intCast_le_intCast.2 h2
  have e1 : (((-201326592 : Int)) : Rat) = -201326592 := rfl
  have e2 : (((201326592 : Int)) : Rat) = 201326592 := rfl
  rw [e1] at q2
  rw [e2] at q1
  have hc : 0 ≤ c25 := by decide +kernel
  have k1 := Rat.mul_le_mul_of_nonneg_right q1 hc
  have k2 := Rat.mul_le_mul_of_nonneg_right q2 hc
  have e : 201326592 * c25 = 6 := by decide +kernel
  generalize c25 = c at *
  constructor <;> grind
theorem sq_real (x y : Int) : ((x : Rat) * c25 - y * c25) * ((x : Rat) * c25 - y * c25) = ((ta_sq x y : Nat) : Rat) * c50 := by
  rw [sq_cast, c25_sub]
  have e : c50 = c25 * c25 := by decide +kernel
  rw [e]
  grind
theorem sq_eq0 {x y : Int} (h : ta_sq x y = 0) : x = y := by
  unfold ta_sq at h
  rcases Nat.mul_eq_zero.1 h with h | h <;> omega
theorem sq_self (x : Int) : ta_sq x x = 0 := by unfold ta_sq; rw [Int.sub_self]; rfl
theorem sq_comm (x y : Int) : ta_sq x y = ta_sq y x := by unfold ta_sq; rw [show (x - y).natAbs = (y - x).natAbs by omega]
theorem seg_table (hp : qv3 p (P1 * c25) (P2 * c25) (P3 * c25)) (ha : qv3 a (A1 * c25) (A2 * c25) (A3 * c25)) (hb : qv3 b (B1 * c25) (B2 * c25) (B3 * c25))
    (k1 : (P1 - A1).natAbs ≤ 201326592) (k2 : (P2 - A2).natAbs ≤ 201326592) (k3 : (P3 - A3).natAbs ≤ 201326592) (j1 : (P1 - B1).natAbs ≤ 201326592) (j2 : (P2 - B2).natAbs ≤ 201326592) (j3 : (P3 - B3).natAbs ≤ 201326592)
    (hR : R = ta_sq P1 A1 + ta_sq P2 A2 + ta_sq P3 A3) (hS : S = ta_sq P1 B1 + ta_sq P2 B2 + ta_sq P3 B3) (hL : L = ta_sq A1 B1 + ta_sq A2 B2 + ta_sq A3 B3) (hL0 : 17592186044416 ≤ L) (h : ta_seg R S L = true) :
    ∃ f1 f2 f3, qv3 (segF a b p) f1 f2 f3 ∧ Rg3 f1 f2 f3 42 := by
  have h1 : Rg3 ((P1 : Rat) * c25 - A1 * c25) (P2 * c25 - A2 * c25) (P3 * c25 - A3 * c25) 6 := ⟨c25_rg k1, c25_rg k2, c25_rg k3⟩
  have h2 : Rg3 ((P1 : Rat) * c25 - B1 * c25) (P2 * c25 - B2 * c25) (P3 * c25 - B3 * c25) 6 := ⟨c25_rg j1, c25_rg j2, c25_rg j3⟩
  have zero : ∀ {f : V3}, f = z3 → ∃ f1 f2 f3, qv3 f f1 f2 f3 ∧ Rg3 f1 f2 f3 42 := fun e => by
    subst e
    have g : Rg (0 : Rat) 42 := ⟨by decide +kernel, by decide +kernel⟩
    exact ⟨0, 0, 0, ⟨qv_zero, qv_zero, qv_zero⟩, ⟨g, g, g⟩⟩
  have hLq : 1 / 64 ≤ (L : Rat) * c50 := by
    have q := Rat.natCast_le_natCast.2 hL0
    have e1 : ((17592186044416 : Nat) : Rat) = 17592186044416 := rfl
    rw [e1] at q
    have := Rat.mul_le_mul_of_nonneg_right q (show 0 ≤ c50 by decide +kernel)
    have f5 : 17592186044416 * c50 = 1 / 64 := by decide +kernel
    rw [f5] at this; exact this
  have real : ∀ x y z X Y Z : Int, ((x : Rat) * c25 - X * c25) * (x * c25 - X * c25) + (y * c25 - Y * c25) * (y * c25 - Y * c25) + (z * c25 - Z * c25) * (z * c25 - Z * c25) = ((ta_sq x X + ta_sq y Y + ta_sq z Z : Nat) : Rat) * c50 := by
    intro x y z X Y Z
    rw [sq_real, sq_real, sq_real, Rat.natCast_add, Rat.natCast_add]
    grind
  unfold ta_seg at h
  simp only [Bool.or_eq_true] at h
  have main : ∀ {g G : Nat}, ta_chk R S L g G = true → ∃ f1 f2 f3, qv3 (segF a b p) f1 f2 f3 ∧ Rg3 f1 f2 f3 42 := by
    intro g G h
    have c := chk_sound h
    refine seg_bound hp ha hb h1 h2 (by rw [real, ← hR]) (by rw [real, ← hS]) ?_ c.hR0 c.hS0 c.g0 c.hg c.hG0 c.hG c.hW c.hQ c.hN
    have e : (L : Rat) * c50 = (A1 * c25 - B1 * c25) * (A1 * c25 - B1 * c25) + (A2 * c25 - B2 * c25) * (A2 * c25 - B2 * c25) + (A3 * c25 - B3 * c25) * (A3 * c25 - B3 * c25) := by rw [real, ← hL]
    have e2 : ((R : Rat) + S - L) / 2 * c50 = ((R : Rat) * c50 + S * c50 - L * c50) / 2 := by grind
    rw [e2, e, hR, hS, ← real, ← real]
    grind
  rcases h with ((h | h) | h) | h
  · have h0 := Nat.eq_of_beq_eq_true h
    rw [hR] at h0
    obtain rfl := sq_eq0 (show ta_sq P1 A1 = 0 by omega)
    obtain rfl := sq_eq0 (show ta_sq P2 A2 = 0 by omega)
    obtain rfl := sq_eq0 (show ta_sq P3 A3 = 0 by omega)
    obtain ⟨Y, hY⟩ := long_ex (sub_nr hp hb h2.x h2.y h2.z) h2 (by rw [real, ← hL]; exact hLq)
    exact zero (seg_ends hp ha hb h1 h2 (qv_mul0 (long_0 (sub_0 hp ha)) hY))
  · have h0 := Nat.eq_of_beq_eq_true h
    rw [hS] at h0
    obtain rfl := sq_eq0 (show ta_sq P1 B1 = 0 by omega)
    obtain rfl := sq_eq0 (show ta_sq P2 B2 = 0 by omega)
    obtain rfl := sq_eq0 (show ta_sq P3 B3 = 0 by omega)
    obtain ⟨X, hX⟩ := long_ex (sub_nr hp ha h1.x h1.y h1.z) h1 (by rw [real, sq_comm P1, sq_comm P2, sq_comm P3, ← hL]; exact hLq)
    exact zero (seg_ends hp ha hb h1 h2 (qv_mul0r hX (long_0 (sub_0 hp hb))))
  · exact main h
  · exact main h
end
end Go.Proofs.Ytnclpojljgpadaa


namespace Go.Proofs.Ytnclpojljgpadaa
open Go.RowKit

set_option maxRecDepth 100000
def sinP (u : Nat) : Nat → Nat
  | 0 => 4607182418800017408
  | i + 1 => fop .sub .f64 4607182418800017408 (fop .quo .f64 (fop .mul .f64 u (sinP u i)) (FloatKind.f64.nearest (((2 * (8 - i)) * (2 * (8 - i) + 1) : Nat) : Int)))
def sin0 (y : Nat) (i : Int) : Nat := fop .sub .f64 y (FloatKind.f64.nearest i)
def sin1 (y : Nat) (i : Int) : Nat := if fcmp .geq .f64 (sin0 y i) 4602678819172646912 = true then fop .sub .f64 (sin0 y i) 4602678819172646912 else sin0 y i
def sin2 (y : Nat) (i : Int) : Nat := if fcmp .gtr .f64 (sin1 y i) 4598175219545276416 = true then fop .sub .f64 4602678819172646912 (sin1 y i) else sin1 y i
def sinZ (y : Nat) (i : Int) : Nat := fop .mul .f64 (sin2 y i) 4618760256179416344
def sinR (y : Nat) (i : Int) : Nat := if fcmp .geq .f64 (sin0 y i) 4602678819172646912 = true then fneg .f64 (fop .mul .f64 (sinZ y i) (sinP (fop .mul .f64 (sinZ y i) (sinZ y i)) 8)) else fop .mul .f64 (sinZ y i) (sinP (fop .mul .f64 (sinZ y i) (sinZ y i)) 8)
def sinW (x : Nat) (i : Int) : Nat := fconv .f64 .f32 (sinR (fconv .f32 .f64 x) i)
def sinOk (y : Nat) (i : Int) : Bool := !(fcmp .neq .f64 (fop .sub .f64 y y) 0) && !(fcmp .geq .f64 y 4841369599423283200) && !(fcmp .leq .f64 y 14064741636278059008) && (floatToIntVal .f64 y .i64 == some i) && !(fcmp .lss .f64 (sin0 y i) 0) && !(fover .f64 .f32 (sinR y i))
def rgQ (k : Nat) : Nat := fop .quo .f32 (FloatKind.f32.nearest (k : Int)) (FloatKind.f32.nearest 6)
def rgI (k : Nat) : Int := if k = 5 then 1 else 0
theorem rg_ok : ∀ k : Fin 6, (sinOk (fconv .f32 .f64 (rgQ k)) 0 && sinOk (fconv .f32 .f64 (fop .add .f32 (rgQ k) 1048576000)) (rgI k)) = true := by decide +kernel
def rgP (r z k : Nat) : V3 := (fop .mul .f32 r (sinW (fop .add .f32 (rgQ k) 1048576000) (rgI k)), fop .mul .f32 r (sinW (rgQ k) 0), z)
def rgL (r z n : Nat) : List V3 := (List.range n).map (rgP r z)
def rgR (k : Nat) : Nat := fop .quo .f32 (FloatKind.f32.nearest (4 + (k : Int))) 1082130432
def rgH (k : Nat) : Nat := fop .quo .f32 (FloatKind.f32.nearest ((k : Int) - 4)) 1082130432
def rgC (k : Nat) : Nat := fop .quo .f32 (FloatKind.f32.nearest ((k : Int) - 4)) 1073741824
/-- A word is v units of 2^-25. -/
def vb (x : Nat) (v : Int) : Bool := decide (x < 2 ^ FloatKind.f32.format.width) && decide (rng FloatKind.f32.format x < FloatKind.f32.format.infRung) && decide (sval FloatKind.f32.format x = v * 2 ^ 124)
def rgXY : List (List Int) := [[33554432, 0, 16777212, 29058992, (-16777224), 29058990, (-33554432), 0, (-16777212), (-29058992), 16777201, (-29058992)], [41943040, 0, 20971516, 36323740, (-20971530), 36323736, (-41943040), 0, (-20971516), (-36323740), 20971502, (-36323740)], [50331648, 0, 25165818, 43588488, (-25165836), 43588484, (-50331648), 0, (-25165818), (-43588488), 25165802, (-43588488)], [58720256, 0, 29360120, 50853236, (-29360142), 50853232, (-58720256), 0, (-29360120), (-50853236), 29360102, (-50853236)], [67108864, 0, 33554424, 58117984, (-33554448), 58117980, (-67108864), 0, (-33554424), (-58117984), 33554402, (-58117984)], [75497472, 0, 37748728, 65382732, (-37748752), 65382728, (-75497472), 0, (-37748728), (-65382732), 37748704, (-65382732)], [83886080, 0, 41943032, 72647480, (-41943060), 72647472, (-83886080), 0, (-41943032), (-72647480), 41943004, (-72647480)], [92274688, 0, 46137332, 79912224, (-46137368), 79912224, (-92274688), 0, (-46137332), (-79912224), 46137304, (-79912224)]]
def rgX (r k : Nat) : Int := (rgXY.getD r []).getD (2 * k) 0
def rgY (r k : Nat) : Int := (rgXY.getD r []).getD (2 * k + 1) 0
theorem rg_x : ∀ r : Fin 8, ∀ k : Fin 6, (vb (rgP (rgR r) 0 k).1 (rgX r k) && vb (rgP (rgR r) 0 k).2.1 (rgY r k)) = true := by decide +kernel
theorem rg_h : ∀ k : Fin 9, vb (rgH k) (((k.val : Int) - 4) * 8388608) = true := by decide +kernel
theorem rg_c : ∀ k : Fin 9, fin (rgC k) = true := by decide +kernel
theorem rg_i : ∀ k : Fin 7, vb (FloatKind.f32.nearest ((k.val : Int) - 3)) (((k.val : Int) - 3) * 33554432) = true := by decide +kernel
theorem rg_5 : vb 1056964608 16777216 = true := by decide +kernel
theorem vb_qv {x : Nat} {v : Int} (h : vb x v = true) : qv x ((v : Rat) * c25) := by
  unfold vb at h
  simp only [Bool.and_eq_true, decide_eq_true_eq] at h
  refine ⟨_, ⟨h.1.1, h.1.2, h.2⟩, ?_⟩
  have e : (2 : Int) ^ 124 * 33554432 = 16777216 * UU := by rw [BB_is]; decide
  have e2 := congrArg (fun z : Int => (z : Rat)) e
  simp only [Rat.intCast_mul] at e2
  have e3 : WW = (((2 : Int) ^ 124 : Int) : Rat) * 33554432 := by
    unfold WW
    rw [← e, Rat.intCast_mul]; rfl
  rw [Rat.intCast_mul, e3]
  unfold c25
  generalize (((2 : Int) ^ 124 : Int) : Rat) = u
  grind
end Go.Proofs.Ytnclpojljgpadaa


namespace Go.Proofs.Ytnclpojljgpadaa
open Go.RowKit

set_option maxRecDepth 20000
attribute [local irreducible] D9 D7 UU WW W9
theorem ta_all_get {f : Nat → Bool} : ∀ {n : Nat}, ta_all n f = true → ∀ {m : Nat}, m < n → f m = true
  | 0, _, m, hm => absurd hm (Nat.not_lt_zero _)
  | n + 1, h, m, hm => by
    simp only [ta_all, Bool.and_eq_true] at h
    rcases Nat.lt_or_eq_of_le (Nat.le_of_lt_succ hm) with h1 | h1
    · exact ta_all_get h.2 h1
    · rw [h1]; exact h.1
def Pc (i : Nat) : Int := ((i : Int) - 3) * 33554432
/-- One ring's table, for its six segments. -/
theorem ring_use {x y : Nat → Int} (h : ta_ring (x 0) (y 0) (x 1) (y 1) (x 2) (y 2) (x 3) (y 3) (x 4) (y 4) (x 5) (y 5) = true) {i j m k : Nat} (hi : i < 7) (hj : j < 7) (hm : m < 17) (hk : k < 6) :
    ta_seg (ta_sq (Pc i) (x k) + ta_sq (Pc j) (y k) + m * m * 70368744177664) (ta_sq (Pc i) (x ((k + 1) % 6)) + ta_sq (Pc j) (y ((k + 1) % 6)) + m * m * 70368744177664) (ta_sq (x k) (x ((k + 1) % 6)) + ta_sq (y k) (y ((k + 1) % 6))) = true := by
  unfold ta_ring at h
  have h1 := ta_all_get (ta_all_get h hi) hj
  unfold ta_six at h1
  have h2 := ta_all_get h1 hm
  simp only [Bool.and_eq_true] at h2
  obtain ⟨⟨⟨⟨⟨g0, g1⟩, g2⟩, g3⟩, g4⟩, g5⟩ := h2
  rcases (by omega : k = 0 ∨ k = 1 ∨ k = 2 ∨ k = 3 ∨ k = 4 ∨ k = 5) with rfl | rfl | rfl | rfl | rfl | rfl
  · exact g0
  · exact g1
  · exact g2
  · exact g3
  · exact g4
  · exact g5
theorem ring_tab {r : Nat} (hr : r < 8) : ta_ring (rgX r 0) (rgY r 0) (rgX r 1) (rgY r 1) (rgX r 2) (rgY r 2) (rgX r 3) (rgY r 3) (rgX r 4) (rgY r 4) (rgX r 5) (rgY r 5) = true := by
  rcases (by omega : r = 0 ∨ r = 1 ∨ r = 2 ∨ r = 3 ∨ r = 4 ∨ r = 5 ∨ r = 6 ∨ r = 7) with rfl | rfl | rfl | rfl | rfl | rfl | rfl | rfl
  · exact ta_r0
  · exact ta_r1
  · exact ta_r2
  · exact ta_r3
  · exact ta_r4
  · exact ta_r5
  · exact ta_r6
  · exact ta_r7
theorem ring_len : ∀ r : Fin 8, ∀ k : Fin 6, (decide ((rgX r k).natAbs ≤ 92274688) && decide ((rgY r k).natAbs ≤ 92274688) && decide (17592186044416 ≤ ta_sq (rgX r k) (rgX r ((k + 1) % 6)) + ta_sq (rgY r k) (rgY r ((k + 1) % 6)))) = true := by decide +kernel
/-- A drawn place: whole numbers from -3 to 3, or a half above the middle. -/
def Pt (p : V3) : Prop := ∃ (i j : Nat) (t : Int), i < 7 ∧ j < 7 ∧ t.natAbs ≤ 12 ∧ qv3 p ((Pc i : Rat) * c25) ((Pc j : Rat) * c25) (((t * 8388608 : Int) : Rat) * c25)
theorem rgP_qv {r h k : Nat} (hr : r < 8) (hh : h < 9) (hk : k < 6) : qv3 (rgP (rgR r) (rgH h) k) ((rgX r k : Rat) * c25) ((rgY r k : Rat) * c25) (((((h : Int) - 4) * 8388608 : Int) : Rat) * c25) := by
  have h1 := rg_x ⟨r, hr⟩ ⟨k, hk⟩
  rw [Bool.and_eq_true] at h1
  exact ⟨vb_qv h1.1, vb_qv h1.2, vb_qv (rg_h ⟨h, hh⟩)⟩
theorem ring_seg {p : V3} {r h k : Nat} (hr : r < 8) (hh : h < 9) (hk : k < 6) (hp : Pt p) : ∃ f1 f2 f3, qv3 (segF (rgP (rgR r) (rgH h) k) (rgP (rgR r) (rgH h) ((k + 1) % 6)) p) f1 f2 f3 ∧ Rg3 f1 f2 f3 42 := by
  obtain ⟨i, j, t, hi, hj, ht, hq⟩ := hp
  have hk2 : (k + 1) % 6 < 6 := Nat.mod_lt _ (by decide)
  have l1 := ring_len ⟨r, hr⟩ ⟨k, hk⟩
  have l2 := ring_len ⟨r, hr⟩ ⟨(k + 1) % 6, hk2⟩
  simp only [Bool.and_eq_true, decide_eq_true_eq] at l1 l2
  obtain ⟨⟨l1x, l1y⟩, l1L⟩ := l1
  obtain ⟨⟨l2x, l2y⟩, _⟩ := l2
  have e6 : ((⟨k, hk⟩ : Fin 6) + 1 : Fin 6).val = (k + 1) % 6 := rfl
  have e : ta_sq (t * 8388608) (((h : Int) - 4) * 8388608) = (t - ((h : Int) - 4)).natAbs * (t - ((h : Int) - 4)).natAbs * 70368744177664 := by
    unfold ta_sq
    rw [← Int.sub_mul, Int.natAbs_mul]
    show _ * 8388608 * (_ * 8388608) = _
    generalize (t - ((h : Int) - 4)).natAbs = m
    rw [show (70368744177664 : Nat) = 8388608 * 8388608 from rfl]
    simp only [Nat.mul_assoc, Nat.mul_left_comm]
  have hPi : (Pc i).natAbs ≤ 100663296 := by unfold Pc; omega
  have hPj : (Pc j).natAbs ≤ 100663296 := by unfold Pc; omega
  refine seg_table hq (rgP_qv hr hh hk) (rgP_qv hr hh hk2) (by omega) (by omega) (by omega) (by omega) (by omega) (by omega) rfl rfl rfl (by rw [sq_self, Nat.add_zero]; exact l1L) ?_
  rw [e, sq_self, Nat.add_zero]
  exact ring_use (ring_tab hr) hi hj (by omega) hk
end Go.Proofs.Ytnclpojljgpadaa


namespace Go.Proofs.Ytnclpojljgpadaa
open Go.RowKit

set_option maxRecDepth 20000
theorem er_sum64 (t : Bool) {x y c : Nat} {X Y : Int} (hc : c ≤ 1900) (hx : apd x X) (hy : apd y Y) (h : (X + (if t then -Y else Y)).natAbs ≤ 2 ^ 53 * 2 ^ c) :
    ∃ Z, apd (((((FloatKind.f64.format.read x).sum (if t then (FloatKind.f64.format.read y).opposite else FloatKind.f64.format.read y)).map FloatKind.f64.format.write).getD (qn .f64))) Z ∧ X + (if t then -Y else Y) - ((2 ^ c : Nat) : Int) ≤ Z ∧ Z ≤ X + (if t then -Y else Y) + ((2 ^ c : Nat) : Int) := by
  obtain ⟨s, M, q, e1, e2, e3, e4⟩ := sum_units hx.1 hy.1 t
  rw [hx.2, hy.2] at e2 e3 e4
  generalize X + (if t then -Y else Y) = V at *
  have hn : M * 2 ^ q ≤ 2 ^ 53 * 2 ^ c * 2 ^ 0 := by rw [e2, Nat.pow_zero, Nat.mul_one]; exact h
  obtain ⟨r, r1, r2, r3, r4⟩ := er_core64 s (a := 0) (b := q) (e := FloatKind.f64.format.leastPlace + (q : Int)) hc (by omega) hn
  rw [Nat.pow_zero, Nat.mul_one, Nat.mul_one, e2] at r3 r4
  have hw : (((FloatKind.f64.format.read x).sum (if t then (FloatKind.f64.format.read y).opposite else FloatKind.f64.format.read y)).map FloatKind.f64.format.write).getD (qn .f64) = FloatKind.f64.format.word s r := by
    rw [e1]; exact r1
  rw [hw]
  exact ⟨_, apd_word s r2, er_sign rfl e3 e4 r3 r4⟩
theorem er_mul64 {x y c P : Nat} {X Y : Int} (hP : P = 1074) (hc : c ≤ 1900) (hx : apd x X) (hy : apd y Y) (h : (X * Y).natAbs ≤ 2 ^ 53 * 2 ^ c * 2 ^ P) :
    ∃ Z, apd (fop .mul .f64 x y) Z ∧ X * Y - ((2 ^ c : Nat) : Int) * ((2 ^ P : Nat) : Int) ≤ Z * ((2 ^ P : Nat) : Int) ∧ Z * ((2 ^ P : Nat) : Int) ≤ X * Y + ((2 ^ c : Nat) : Int) * ((2 ^ P : Nat) : Int) := by
  obtain ⟨m, e, a1, a2⟩ := read_number FloatKind.f64.format hx.1
  obtain ⟨n, d, b1, b2⟩ := read_number FloatKind.f64.format hy.1
  rw [hx.units] at a2
  rw [hy.units] at b2
  have hxy : (X * Y).natAbs = m * n * 2 ^ (e + d) := by rw [Int.natAbs_mul, ← a2, ← b2, Nat.pow_add]; simp only [Nat.mul_assoc, Nat.mul_left_comm]
  obtain ⟨r, r1, r2, r3, r4⟩ := er_core64 (sgn FloatKind.f64.format x ^^ sgn FloatKind.f64.format y) (m := m * n) (a := P) (b := e + d) (c := c) (e := FloatKind.f64.format.leastPlace + (e : Int) + (FloatKind.f64.format.leastPlace + (d : Int))) hc (by rw [lp64]; omega) (by rw [← hxy]; exact h)
  have hw : fop .mul .f64 x y = FloatKind.f64.format.word (sgn FloatKind.f64.format x ^^ sgn FloatKind.f64.format y) r := by
    unfold fop floatBits Ieee.Format.mul
    simp only [a1, b1, Ieee.Datum.product, Option.map_some, Option.getD_some]
    exact r1
  rw [hw]
  refine ⟨_, apd_word _ r2, ?_⟩
  obtain ⟨s1, s2⟩ := sgn_xorD hx hy
  have := er_sign (V := X * Y) hxy s1 s2 r3 r4
  have e9 : (if (sgn FloatKind.f64.format x ^^ sgn FloatKind.f64.format y) = true then -(units FloatKind.f64.format r : Int) else (units FloatKind.f64.format r : Int)) * ((2 ^ P : Nat) : Int) =
      (if (sgn FloatKind.f64.format x ^^ sgn FloatKind.f64.format y) = true then -((units FloatKind.f64.format r * 2 ^ P : Nat) : Int) else ((units FloatKind.f64.format r * 2 ^ P : Nat) : Int)) := by
    split <;> simp only [Int.natCast_mul, Int.neg_mul]
  rw [e9, ← Int.natCast_mul]
  exact this
attribute [local irreducible] D9 D7 UU WW W9
section
variable {x y : Nat} {p q K : Rat} {k : Nat}
theorem dv_pow {K : Rat} {k P c : Nat} (hP : P = 1074) (hK : pw2 k K) (hc : c + 53 = P + k) : ((2 ^ 53 * 2 ^ c : Nat) : Rat) = K * W9 ∧ ((2 ^ c : Nat) : Rat) = K / 9007199254740992 * W9 := by
  have e1 := W9_pow hP
  have e2 : ((2 ^ 53 * 2 ^ c : Nat) : Rat) = K * W9 := by
    rw [hK, e1, ← Rat.natCast_mul, ← Nat.pow_add, ← Nat.pow_add]
    congr 2; omega
  refine ⟨e2, ?_⟩
  rw [Rat.natCast_mul] at e2
  have : ((2 ^ 53 : Nat) : Rat) = 9007199254740992 := by rfl
  rw [this] at e2
  grind
theorem dv_add (hK : pw2 k K) (hk : k ≤ 70) (hx : dv x p) (hy : dv y q) (h1 : -K ≤ p + q) (h2 : p + q ≤ K) : ∃ z, dv (fop .add .f64 x y) z ∧ p + q - K / 9007199254740992 ≤ z ∧ z ≤ p + q + K / 9007199254740992 := by
  obtain ⟨X, hX, eX⟩ := hx
  obtain ⟨Y, hY, eY⟩ := hy
  obtain ⟨P, hP⟩ : ∃ P : Nat, P = 1074 := ⟨_, rfl⟩
  have hp := W9_pos
  obtain ⟨c, hc⟩ : ∃ c : Nat, c + 53 = P + k := ⟨P + k - 53, by omega⟩
  obtain ⟨e1, e2⟩ := dv_pow hP hK hc
  have eS : ((X + Y : Int) : Rat) = (p + q) * W9 := by rw [Rat.intCast_add, eX, eY]; grind
  obtain ⟨Z, z1, z2, z3⟩ := er_sum64 false (c := c) (by omega) hX hY (nat_of_q (by
    simp only [Bool.false_eq_true, if_false]
    rw [e1]
    refine abs_int (c := K * W9) ?_ ?_ rfl
    · rw [eS]
      have := Rat.mul_le_mul_of_nonneg_right h1 (Rat.le_of_lt hp)
      grind
    · rw [eS]
      exact Rat.mul_le_mul_of_nonneg_right h2 (Rat.le_of_lt hp)))
  simp only [Bool.false_eq_true, if_false] at z1 z2 z3
  obtain ⟨z, hz⟩ : ∃ z : Rat, (Z : Rat) = z * W9 := ⟨(Z : Rat) / W9, by grind⟩
  have c1 : (((2 ^ c : Nat) : Int) : Rat) = K / 9007199254740992 * W9 := e2
  refine ⟨z, ⟨Z, z1, hz⟩, ?_, ?_⟩
  · have := (Rat.intCast_le_intCast).2 z2
    rw [Rat.intCast_sub, eS, c1, hz] at this
    exact Rat.le_of_mul_le_mul_right (c := W9) (by grind) hp
  · have := (Rat.intCast_le_intCast).2 z3
    rw [Rat.intCast_add (X + Y), eS, c1, hz] at this
    exact Rat.le_of_mul_le_mul_right (c := W9) (by grind) hp
theorem dv_mul2 (hK : pw2 k K) (hk : k ≤ 70) (hx : dv x p) (hy : dv y q) (h1 : -K ≤ p * q) (h2 : p * q ≤ K) : ∃ z, dv (fop .mul .f64 x y) z ∧ p * q - K / 9007199254740992 ≤ z ∧ z ≤ p * q + K / 9007199254740992 := by
  obtain ⟨X, hX, eX⟩ := hx
  obtain ⟨Y, hY, eY⟩ := hy
  obtain ⟨P, hP⟩ : ∃ P : Nat, P = 1074 := ⟨_, rfl⟩
  have hp := W9_pos
  have hpp := Rat.mul_pos hp hp
  obtain ⟨c, hc⟩ : ∃ c : Nat, c + 53 = P + k := ⟨P + k - 53, by omega⟩
  obtain ⟨e1, e2⟩ := dv_pow hP hK hc
  have e3 := W9_pow hP
  have eS : ((X * Y : Int) : Rat) = p * q * (W9 * W9) := by rw [Rat.intCast_mul, eX, eY]; grind
  obtain ⟨Z, z1, z2, z3⟩ := er_mul64 hP (c := c) (by omega) hX hY (nat_of_q (by
    rw [Rat.natCast_mul, e1, ← e3]
    refine abs_int (c := K * W9 * W9) ?_ ?_ rfl
    · rw [eS]
      have := Rat.mul_le_mul_of_nonneg_right h1 (Rat.le_of_lt hpp)
      grind
    · rw [eS]
      have := Rat.mul_le_mul_of_nonneg_right h2 (Rat.le_of_lt hpp)
      grind))
  obtain ⟨z, hz⟩ : ∃ z : Rat, (Z : Rat) = z * W9 := ⟨(Z : Rat) / W9, by grind⟩
  have c1 : (((2 ^ c : Nat) : Int) : Rat) = K / 9007199254740992 * W9 := e2
  have c2 : (((2 ^ P : Nat) : Int) : Rat) = W9 := e3.symm
  refine ⟨z, ⟨Z, z1, hz⟩, ?_, ?_⟩
  · have := (Rat.intCast_le_intCast).2 z2
    rw [Rat.intCast_sub, eS, Rat.intCast_mul, Rat.intCast_mul, c1, c2, hz] at this
    exact Rat.le_of_mul_le_mul_right (c := W9 * W9) (by grind) hpp
  · have := (Rat.intCast_le_intCast).2 z3
    rw [Rat.intCast_add, eS, Rat.intCast_mul, Rat.intCast_mul, c1, c2, hz] at this
    exact Rat.le_of_mul_le_mul_right (c := W9 * W9) (by grind) hpp
theorem dv_ngt (hx : dv x p) (hy : dv y q) (h : p ≤ q) : fcmp .gtr .f64 x y = false := by
  obtain ⟨X, hX, eX⟩ := hx
  obtain ⟨Y, hY, eY⟩ := hy
  show (FloatKind.f64.format.order x y == some .gt) = false
  have h9 : X ≤ Y := by
    rw [← Rat.intCast_le_intCast, eX, eY]
    exact Rat.mul_le_mul_of_nonneg_right h (Rat.le_of_lt W9_pos)
  rw [order_number hX.1 hY.1, hX.2, hY.2]
  rcases Int.lt_trichotomy X Y with h | h | h
  · rw [Int.compare_eq_lt.2 h]; rfl
  · rw [compare_eq.2 h]; rfl
  · omega
theorem dv_lss (hx : dv x p) (hy : dv y q) : fcmp .lss .f64 x y = decide (p < q) := by
  obtain ⟨X, hX, eX⟩ := hx
  obtain ⟨Y, hY, eY⟩ := hy
  show (FloatKind.f64.format.order x y == some .lt) = _
  rw [order_number hX.1 hY.1, hX.2, hY.2]
  have key : X < Y ↔ p < q := by
    rw [← Rat.intCast_lt_intCast, eX, eY]
    exact ⟨fun h => Rat.lt_of_mul_lt_mul_right h (Rat.le_of_lt W9_pos), fun h => Rat.mul_lt_mul_of_pos_right h W9_pos⟩
  rcases Int.lt_trichotomy X Y with h | h | h
  · rw [Int.compare_eq_lt.2 h, decide_eq_true (key.1 h)]; rfl
  · rw [compare_eq.2 h, decide_eq_false (fun g => by have := key.2 g; omega)]; rfl
  · rw [Int.compare_eq_gt.2 h, decide_eq_false (fun g => by have := key.2 g; omega)]; rfl
end
end Go.Proofs.Ytnclpojljgpadaa


namespace Go.Proofs.Ytnclpojljgpadaa
open Go.RowKit

def stK (ws : List Wr) (p : V3) (h : Nat) : Nat → V3 × Bool
  | 0 => (p, true)
  | k + 1 => if (stK ws p h k).2 then (stepV ws (stK ws p h k).1 h, stepOk ws (stK ws p h k).1 h) else (z3, false)
section
variable {ws : List Wr} {p : V3} {h st near : Nat}
end
def hN (st n : Nat) : Nat := fop .quo .f32 st (FloatKind.f32.nearest (n : Int))
section
variable {ws : List Wr} {p : V3} {st near i : Nat}
end
section
variable {ws : List Wr} {p : V3} {st near i : Nat}
end

/-! ### checked -/
section
variable {ws : List Wr} {p : V3} {st near i : Nat}
end
end Go.Proofs.Ytnclpojljgpadaa


namespace Go.Proofs.Ytnclpojljgpadaa
open Go.RowKit

def flat : List V3 → List Nat
  | [] => []
  | v :: vs => v.1 :: v.2.1 :: v.2.2 :: flat vs
/-- A list of headers of wires of which the points alone are told. -/
def WH (f : Nat → Option Addr × Nat) (ws : List Wr) (us : List Value) : Prop := us.length = ws.length * 3 ∧ us.all scal = true ∧ ∀ i, i < ws.length → us[i * 3]? = some (.slice (f i).1 (ws.getD i zw).1.length (f i).2)
theorem WH.first (f : Nat → Option Addr × Nat) (ws : List Wr) : WH f ws (whd f ws) := ⟨whd_length f ws, whd_scal f ws, fun _ h => whd_get0 h⟩
theorem WH.set {f : Nat → Option Addr × Nat} {ws : List Wr} {us : List Value} {j : Nat} {v : Value} (h : WH f ws us) (hj : j % 3 ≠ 0) (hv : scal v = true) : WH f ws (us.set j v) := by
  refine ⟨by rw [List.length_set]; exact h.1, ?_, fun i hi => ?_⟩
  · rw [List.all_eq_true]
    intro x hx
    rcases List.mem_or_eq_of_mem_set hx with h1 | h1
    · exact (List.all_eq_true.1 h.2.1) x h1
    · rw [h1]; exact hv
  · rw [List.getElem?_set_ne (by omega)]
    exact h.2.2 i hi
/-! ### a line -/
section
variable {ws : List Wr} {p : V3} {st k n : Nat}
end
section
variable {ws : List Wr} {p : V3} {st : Nat} {rn : Int}
end
end Go.Proofs.Ytnclpojljgpadaa


namespace Go.Proofs.Ytnclpojljgpadaa
open Go.RowKit Go.ChangeShapes Go.WideShapes Go.Deep

section
variable {H : Type} {enc : TypeId × Value → H} {P : Program} {w : World} {base : Nat} {spare : Nat → Bool} {held : Bool}

end
end Go.Proofs.Ytnclpojljgpadaa


namespace Go.Proofs.Ytnclpojljgpadaa
open Go.RowKit Go.ChangeShapes Go.WideShapes Go.Deep

section
variable {H : Type} {enc : TypeId × Value → H} {P : Program} {w : World} {base : Nat} {spare : Nat → Bool} {held : Bool}

end
end Go.Proofs.Ytnclpojljgpadaa


namespace Go.Proofs.Ytnclpojljgpadaa
open Go.RowKit

def mk0 (k0 : Int) (ws : List Wr) (i : Nat) : Int := k0 + ((wsum ws i * 3 + i * 2 : Nat) : Int)
def mrents (t : TypeId) (k0 : Int) (f : Nat → Option Addr × Nat) (ws : List Wr) (k : Nat) : List Ent := (List.range k).map fun i => ⟨(f i).1, fl (marks (mk0 k0 ws i) ((ws.getD i zw).1.length * 3)), (f i).2 * 3, t⟩
section
variable {t : TypeId} {k0 : Int} {f : Nat → Option Addr × Nat} {ws : List Wr} {k i : Nat}
theorem mrents_mem (h : i < k) : (⟨(f i).1, fl (marks (mk0 k0 ws i) ((ws.getD i zw).1.length * 3)), (f i).2 * 3, t⟩ : Ent) ∈ mrents t k0 f ws k := List.mem_map.2 ⟨i, by simpa using h, rfl⟩
end
/-- Each wire's points carry their marks. -/
def MRws (w : World) (k0 : Int) (f : Nat → Option Addr × Nat) (ws : List Wr) : Prop := ∀ i, i < ws.length → Cl w (f i).1 (fl (marks (mk0 k0 ws i) ((ws.getD i zw).1.length * 3)))
theorem MRws.below {w w' : World} {k0 : Int} {f : Nat → Option Addr × Nat} {ws : List Wr} (h : MRws w k0 f ws) (hb : Below w.heap.size w w') : MRws w' k0 f ws := fun i hi => (h i hi).below hb
theorem MRws.root {w0 w : World} {O : List Ent} {k0 : Int} {f : Nat → Option Addr × Nat} {ws : List Wr} (h : MRws w0 k0 f ws) (hw : Hp w0 O w) : MRws w k0 f ws := h.below hw.below
inductive MRowsIn : List Ent → TypeId → Int → (Nat → Option Addr × Nat) → List Wr → Prop
  | here {t : TypeId} {k0 : Int} {f : Nat → Option Addr × Nat} {ws : List Wr} {O : List Ent} : MRowsIn (mrents t k0 f ws ws.length ++ O) t k0 f ws
  | last {t : TypeId} {k0 : Int} {f : Nat → Option Addr × Nat} {ws : List Wr} : MRowsIn (mrents t k0 f ws ws.length) t k0 f ws
  | there {t : TypeId} {k0 : Int} {f : Nat → Option Addr × Nat} {ws : List Wr} {e : Ent} {O : List Ent} : MRowsIn O t k0 f ws → MRowsIn (e :: O) t k0 f ws
  | thereS {t : TypeId} {k0 : Int} {f : Nat → Option Addr × Nat} {ws : List Wr} {S O : List Ent} : MRowsIn O t k0 f ws → MRowsIn (S ++ O) t k0 f ws
theorem MRowsIn.mem {O : List Ent} {t : TypeId} {k0 : Int} {f : Nat → Option Addr × Nat} {ws : List Wr} (h : MRowsIn O t k0 f ws) : ∀ i, i < ws.length → (⟨(f i).1, fl (marks (mk0 k0 ws i) ((ws.getD i zw).1.length * 3)), (f i).2 * 3, t⟩ : Ent) ∈ O := by
  induction h with
  | here => exact fun i hi => List.mem_append_left _ (mrents_mem hi)
  | last => exact fun i hi => mrents_mem hi
  | there _ ih => exact fun i hi => List.mem_cons_of_mem _ (ih i hi)
  | thereS _ ih => exact fun i hi => List.mem_append_right _ (ih i hi)
theorem MRws.own {w0 w : World} {O : List Ent} {t : TypeId} {k0 : Int} {f : Nat → Option Addr × Nat} {ws : List Wr} (h : MRowsIn O t k0 f ws) (hw : Hp w0 O w) : MRws w k0 f ws := fun i hi => Sees.own (h.mem i hi) w hw
end Go.Proofs.Ytnclpojljgpadaa


namespace Go.Proofs.Ytnclpojljgpadaa
open Go.RowKit

def setW (ws : List Wr) (x : List Nat) : List Wr := (List.range ws.length).map fun i => ((ws.getD i zw).1, (ws.getD i zw).2.1, x.getD i 0)
section
variable {ws : List Wr} {x : List Nat} {k : Nat} {g : Nat → Option Addr × Nat} {t : TypeId}
theorem setW_length : (setW ws x).length = ws.length := by simp [setW]
theorem setW_get (h : k < ws.length) : (setW ws x).getD k zw = ((ws.getD k zw).1, (ws.getD k zw).2.1, x.getD k 0) := by simp [setW, List.getD, h]
theorem whd_setW {a : Option Addr} {c : Nat} (h : k < ws.length) : whd g ((setW ws x).take k) ++ [.slice a (ws.getD k zw).1.length c, .bool (ws.getD k zw).2.1, .float .f32 (x.getD k 0)] = whd (upd g k (a, c)) ((setW ws x).take (k + 1)) := by
  have hlk : ((setW ws x).take k).length = k := by rw [List.length_take, setW_length]; omega
  have := whd_snoc g (a, c) ((setW ws x).getD k zw) ((setW ws x).take k)
  rw [hlk, wtake_snoc (by rw [setW_length]; exact h)] at this
  rw [← this, setW_get h]
  rfl
theorem Hp.snocW {w0 w : World} {A : List Ent} (h : k < ws.length) (p : Option Addr × Nat) (hw : Hp w0 (⟨p.1, vl (ws.getD k zw).1, p.2 * 3, t⟩ :: (A ++ wrents t g ((setW ws x).take k))) w) : Hp w0 (A ++ wrents t (upd g k p) ((setW ws x).take (k + 1))) w := by
  have e := wrents_take (t := t) (f := g) (ws := setW ws x) (k := k) (by rw [setW_length]; exact h) p
  rw [setW_get h] at e
  rw [← e]
  refine hw.perm' ?_
  rw [← List.append_assoc]
  exact (List.perm_append_comm (l₁ := [_]))
theorem setW_take : (setW ws x).take ws.length = setW ws x := List.take_of_length_le (by rw [setW_length]; exact Nat.le_refl _)
end
def scOk (ws : List Wr) (x : List Nat) : Bool := dwOk ws && decide (x.length = ws.length) && x.all fin
def scV (ws : List Wr) (x : List Nat) : List Wr := if scOk ws x then setW ws x else []
section
variable {ws : List Wr} {x : List Nat} {k : Nat}
theorem sc_yes (h1 : dwOk ws = true) (h2 : x.length = ws.length) (h3 : ∀ j, j < ws.length → fin (x.getD j 0) = true) : scOk ws x = true := by
  unfold scOk; rw [h1, decide_eq_true h2, all_getD.2 (fun j hj => h3 j (by omega))]; rfl
theorem sc_no1 (h : dwOk ws = false) : scOk ws x = false := by unfold scOk; rw [h]; rfl
theorem sc_no2 (h : ¬ x.length = ws.length) : scOk ws x = false := by unfold scOk; rw [decide_eq_false h, Bool.and_false]; rfl
theorem sc_no3 (hk : k < x.length) (h : fin (x.getD k 0) = false) : scOk ws x = false := by
  have : x.all fin = false := by
    rw [Bool.eq_false_iff]
    intro ha
    rw [all_getD.1 ha k hk] at h
    cases h
  unfold scOk; rw [this, Bool.and_false]
theorem scV_yes (h : scOk ws x = true) : scV ws x = setW ws x := by unfold scV; rw [h]; rfl
theorem scV_no (h : scOk ws x = false) : scV ws x = [] := by unfold scV; rw [h]; rfl
theorem wire_cur {w : Wr} {c : Nat} (h : wireOk w = true) : wireOk (w.1, w.2.1, c) = fin c := by
  have h1 := wire_is h
  exact (wire_yes ⟨h1.1, h1.2.1⟩ h1.2.2.1).symm
theorem dw_row (h : dwOk ws = true) (hk : k < ws.length) : wireOk (ws.getD k zw) = true := by
  unfold dwOk at h
  rw [Bool.and_eq_true] at h
  exact wall_getD.1 h.2 k hk
end
end Go.Proofs.Ytnclpojljgpadaa


namespace Go.Proofs.Ytnclpojljgpadaa
open Go.RowKit

set_option maxRecDepth 20000
attribute [local irreducible] D9 D7 UU WW W9
def RingOk (w : Wr) : Prop := ∃ r h c : Nat, r < 8 ∧ h < 9 ∧ c < 9 ∧ w = (rgL (rgR r) (rgH h) 6, true, rgC c)
theorem rgL_get {r z n i : Nat} (h : i < n) : (rgL r z n).getD i z3 = rgP r z i := by simp [rgL, List.getD, h]
theorem rgL_length (r z n : Nat) : (rgL r z n).length = n := by simp [rgL]
theorem qv3_fin {w : V3} {a b c : Rat} (h : qv3 w a b c) : fin3 w = true := by
  unfold fin3; rw [qv_fin h.x, qv_fin h.y, qv_fin h.z]; rfl
theorem ring_wire {w : Wr} (hw : RingOk w) : wireOk w = true ∧ w.1.length = 6 ∧ w.2.1 = true ∧ ∀ c, fin c = true → wireOk (w.1, w.2.1, c) = true := by
  obtain ⟨r, h, c, hr, hh, hc, rfl⟩ := hw
  have hp : (rgL (rgR r) (rgH h) 6).all fin3 = true := vall_getD.2 fun k hk => by
    rw [rgL_length] at hk
    rw [rgL_get hk]
    exact qv3_fin (rgP_qv hr hh hk)
  have key : ∀ c, fin c = true → wireOk (rgL (rgR r) (rgH h) 6, true, c) = true := fun c hc => (wire_yes' (by rw [rgL_length]; decide) hp hc).symm
  exact ⟨key _ (rg_c ⟨c, hc⟩), rgL_length _ _ _, rfl, key⟩
theorem ring_segN {w : Wr} (hw : RingOk w) (c : Nat) : segN (w.1, w.2.1, c) = 6 := by
  obtain ⟨_, h1, h2, _⟩ := ring_wire hw
  unfold segN
  rw [h2, if_pos rfl, h1]
theorem sumW_cur (w : Wr) (c : Nat) (p : V3) : ∀ n, sumW (w.1, w.2.1, c) p n = sumW w p n
  | 0 => rfl
  | n + 1 => by show add3 _ _ = add3 _ _; rw [sumW_cur w c p n]; rfl
theorem Rg3.mono {a b c A B : Rat} (h : Rg3 a b c A) (hA : A ≤ B) : Rg3 a b c B := ⟨h.x.mono hA, h.y.mono hA, h.z.mono hA⟩
theorem ring_sum {w : Wr} {p : V3} (hw : RingOk w) (hp : Pt p) : ∀ n, n ≤ 6 → ∃ f1 f2 f3, qv3 (sumW w p n) f1 f2 f3 ∧ Rg3 f1 f2 f3 ((n : Rat) * (4201 / 100))
  | 0, _ => by
    have g : Rg (0 : Rat) (((0 : Nat) : Rat) * (4201 / 100)) := ⟨by decide +kernel, by decide +kernel⟩
    exact ⟨0, 0, 0, ⟨qv_zero, qv_zero, qv_zero⟩, ⟨g, g, g⟩⟩
  | n + 1, hn => by
    obtain ⟨f1, f2, f3, hf, hF⟩ := ring_sum hw hp n (by omega)
    obtain ⟨r, h, c, hr, hh, hc, rfl⟩ := hw
    obtain ⟨g1, g2, g3, hg, hG⟩ := ring_seg hr hh (show n < 6 by omega) hp
    have hA : segA (rgL (rgR r) (rgH h) 6, true, rgC c) n = rgP (rgR r) (rgH h) n := rgL_get (by omega)
    have hB : segB (rgL (rgR r) (rgH h) 6, true, rgC c) n = rgP (rgR r) (rgH h) ((n + 1) % 6) := by
      unfold segB
      rw [show ((rgL (rgR r) (rgH h) 6, true, rgC c) : Wr).1.length = 6 from rgL_length _ _ _]
      exact rgL_get (Nat.mod_lt _ (by decide))
    have e1 : ((n + 1 : Nat) : Rat) = (n : Rat) + 1 := by rw [Rat.natCast_add]; rfl
    have hn5 : (n : Rat) ≤ 5 := Rat.natCast_le_natCast.2 (show n ≤ 5 by omega)
    have eu : (1 + 2 * 253) * u24 ≤ 1 / 100 := by decide +kernel
    have key : ∀ {x y : Nat} {a b : Rat}, qv x a → qv y b → Rg a ((n : Rat) * (4201 / 100)) → Rg b 42 → ∃ z, qv (fop .add .f32 x y) z ∧ Rg z (((n + 1 : Nat) : Rat) * (4201 / 100)) := by
      intro x y a b hx hy ha hb
      obtain ⟨z, z1, z2⟩ := rd_add hx hy (B := 253) ((ha.add hb).mono (by grind)) (by decide +kernel)
      refine ⟨z, z1, ?_⟩
      have := ha.add hb
      obtain ⟨a1, a2⟩ := this
      obtain ⟨b1, b2⟩ := z2
      rw [e1]
      constructor <;> grind
    obtain ⟨z1, x1, y1⟩ := key hf.x hg.x hF.x hG.x
    obtain ⟨z2, x2, y2⟩ := key hf.y hg.y hF.y hG.y
    obtain ⟨z3, x3, y3⟩ := key hf.z hg.z hF.z hG.z
    refine ⟨z1, z2, z3, ?_, ⟨y1, y2, y3⟩⟩
    show qv3 (add3 (sumW _ p n) (segF (segA _ n) (segB _ n) p)) _ _ _
    rw [hA, hB]
    exact ⟨x1, x2, x3⟩
/-- Drawn data. -/
structure WD (ws : List Wr) (x : List Nat) (vs : List V3) (way : V3) : Prop where
  n1 : 1 ≤ ws.length
  n3 : ws.length ≤ 3
  ring : ∀ j, j < ws.length → RingOk (ws.getD j zw)
  xl : x.length = ws.length
  xq : ∀ y ∈ x, Q17 y
  v3 : vs.length = 3
  pt : ∀ i, i < 3 → Pt (vs.getD i z3)
  wy : ∃ k : Nat, k < 3 ∧ way = (FloatKind.f32.nearest (k : Int), 0, 1065353216)
theorem way_vb : ∀ k : Fin 3, vb (FloatKind.f32.nearest (k.val : Int)) ((k.val : Int) * 33554432) = true := by decide +kernel
theorem one_vb : vb 1065353216 33554432 = true := by decide +kernel
def rs (g : Nat → Rat) : Nat → Rat
  | 0 => 0
  | i + 1 => rs g i + g i
theorem rs_rg {g : Nat → Rat} {n : Nat} {B : Rat} (h : ∀ j, j < n → Rg (g j) B) : ∀ i, i ≤ n → Rg (rs g i) ((i : Rat) * B)
  | 0, _ => by
    have e : ((0 : Nat) : Rat) = 0 := rfl
    rw [e, Rat.zero_mul]
    show Rg 0 0
    exact ⟨by decide +kernel, by decide +kernel⟩
  | i + 1, hi => by
    have h1 := (rs_rg h i (by omega)).add (h i (by omega))
    have e1 : ((i + 1 : Nat) : Rat) = (i : Rat) + 1 := by rw [Rat.natCast_add]; rfl
    rw [e1]
    exact h1.mono (by grind)
section
variable {ws : List Wr} {x : List Nat} {vs : List V3} {way p : V3}
theorem WD.dw (h : WD ws x vs way) : dwOk ws = true := (dw_yes ⟨h.n1, by have := h.n3; omega⟩ fun k hk => (ring_wire (h.ring k hk)).1).symm
theorem WD.xfin (h : WD ws x vs way) {j : Nat} (hj : j < ws.length) : fin (x.getD j 0) = true := by
  obtain ⟨_, _, _, h3, _⟩ := hQ (h.xq _ (getD_mem (xs := x) (k := j) (by have := h.xl; omega)))
  exact h3
theorem WD.sc (h : WD ws x vs way) : scOk ws x = true := sc_yes h.dw h.xl fun _ hj => h.xfin hj
theorem WD.fed (h : WD ws x vs way) : dwOk (setW ws x) = true := by
  refine (dw_yes (by rw [setW_length]; exact ⟨h.n1, by have := h.n3; omega⟩) fun k hk => ?_).symm
  rw [setW_length] at hk
  rw [setW_get hk]
  exact (ring_wire (h.ring k hk)).2.2.2 _ (h.xfin hk)
/-- What the rings make at a place, and the currents. -/
theorem WD.vals (h : WD ws x vs way) (hp : Pt p) : ∃ (f : Nat → Rat × Rat × Rat) (ξ : Nat → Rat), (∀ j, j < ws.length → qv3 (sumW (ws.getD j zw) p 6) (f j).1 (f j).2.1 (f j).2.2 ∧ Rg3 (f j).1 (f j).2.1 (f j).2.2 253) ∧ ∀ j, j < ws.length → qv (x.getD j 0) (ξ j) ∧ Rg (ξ j) 2 := by
  have h1 : ∀ j : Nat, ∃ t : Rat × Rat × Rat, j < ws.length → qv3 (sumW (ws.getD j zw) p 6) t.1 t.2.1 t.2.2 ∧ Rg3 t.1 t.2.1 t.2.2 253 := by
    intro j
    by_cases hj : j < ws.length
    · obtain ⟨a, b, c, h1, h2⟩ := ring_sum (h.ring j hj) hp 6 (Nat.le_refl _)
      exact ⟨(a, b, c), fun _ => ⟨h1, h2.mono (by decide +kernel)⟩⟩
    · exact ⟨(0, 0, 0), fun h => absurd h hj⟩
  have h2 : ∀ j : Nat, ∃ t : Rat, j < ws.length → qv (x.getD j 0) t ∧ Rg t 2 := by
    intro j
    by_cases hj : j < ws.length
    · obtain ⟨v, a, b, _⟩ := hQ (h.xq _ (getD_mem (xs := x) (k := j) (by have := h.xl; omega)))
      refine ⟨_, fun _ => ⟨qv_dy b, ?_⟩⟩
      have q1 := Rat.intCast_le_intCast.2 (show (32 * v : Int) ≤ 256 by omega)
      have q2 := Rat.intCast_le_intCast.2 (show (-256 : Int) ≤ 32 * v by omega)
      have e1 : (((256 : Int)) : Rat) = 256 := rfl
      have e2 : (((-256 : Int)) : Rat) = -256 := rfl
      rw [e1] at q1
      rw [e2] at q2
      constructor <;> grind
    · exact ⟨0, fun h => absurd h hj⟩
  exact ⟨fun j => Classical.choose (h1 j), fun j => Classical.choose (h2 j), fun j hj => Classical.choose_spec (h1 j) hj, fun j hj => Classical.choose_spec (h2 j) hj⟩
section
variable {f : Nat → Rat × Rat × Rat} {ξ : Nat → Rat}
theorem WD.wf (h : WD ws x vs way) {j : Nat} (hj : j < ws.length) (c : Nat) : wireF ((ws.getD j zw).1, (ws.getD j zw).2.1, c) p = scale3 (sumW (ws.getD j zw) p 6) c := by
  unfold wireF
  rw [ring_segN (h.ring j hj), sumW_cur]
theorem i3 {i n : Nat} (h : i < n) (hn : n ≤ 3) : (0 : Rat) ≤ (i : Rat) ∧ (i : Rat) ≤ 2 := ⟨Rat.natCast_nonneg, Rat.natCast_le_natCast.2 (show i ≤ 2 by omega)⟩
theorem wd_num {e i U : Rat} (hU : 0 ≤ U) (_ : 0 ≤ i) (h2 : i ≤ 2) (hu : 20000 * U ≤ 1 / 100) (he : e = i * 4060 * U) : 1518 + e + 1013 * U ≤ 1000000000000000000 ∧ e + 1013 * U + (1 + 2 * (1518 + e + 1013 * U)) * U ≤ (i + 1) * 4060 * U := by
  have k1 : e ≤ 8120 * U := by rw [he]; exact Rat.mul_le_mul_of_nonneg_right (by grind) hU
  refine ⟨by grind, ?_⟩
  have k3 : (1 + 2 * (1518 + e + 1013 * U)) * U ≤ 3040 * U := Rat.mul_le_mul_of_nonneg_right (by grind) hU
  have e2 : (i + 1) * 4060 * U = e + 4060 * U := by rw [he]; grind
  rw [e2]
  grind
theorem wd_step {z w c i n : Nat} {g : Nat → Rat} (hn : i < n) (h3 : n ≤ 3) (hz : nr z (rs (fun j => g j * ξ j) i) ((i : Rat) * 4060 * u24)) (hw : qv w (g i)) (hc : qv c (ξ i)) (hg : ∀ j, j < n → Rg (g j) 253) (hx : ∀ j, j < n → Rg (ξ j) 2) :
    nr (fop .add .f32 z (fop .mul .f32 w c)) (rs (fun j => g j * ξ j) (i + 1)) (((i + 1 : Nat) : Rat) * 4060 * u24) := by
  have e1 : ((i + 1 : Nat) : Rat) = (i : Rat) + 1 := by rw [Rat.natCast_add]; rfl
  have hi3 := i3 hn h3
  have hm := nr_mul (.of hw) (.of hc) (hg i hn) (hx i hn) (G := 1013 * u24) (by decide +kernel) (by decide +kernel)
  have hb := rs_rg (g := fun j => g j * ξ j) (n := n) (B := 506) (fun j hj => (rmul (hg j hj) (hx j hj)).mono (by decide +kernel)) (i + 1) hn
  have hb2 : Rg (rs (fun j => g j * ξ j) i + g i * ξ i) 1518 := hb.mono (by rw [e1]; grind)
  obtain ⟨s1, s2⟩ := wd_num (U := u24) (by decide +kernel) hi3.1 hi3.2 (by decide +kernel) rfl
  exact nr_add hz hm hb2 s1 (by rw [e1]; exact s2)
attribute [local irreducible] sumW segF fop wireF
theorem WD.sumA (h : WD ws x vs way) (hf : ∀ j, j < ws.length → qv3 (sumW (ws.getD j zw) p 6) (f j).1 (f j).2.1 (f j).2.2 ∧ Rg3 (f j).1 (f j).2.1 (f j).2.2 253) (hx : ∀ j, j < ws.length → qv (x.getD j 0) (ξ j) ∧ Rg (ξ j) 2) : ∀ i, i ≤ ws.length →
    nr3 (sumA (setW ws x) p z3 i) (rs (fun j => (f j).1 * ξ j) i) (rs (fun j => (f j).2.1 * ξ j) i) (rs (fun j => (f j).2.2 * ξ j) i) ((i : Rat) * 4060 * u24) := by
  intro i
  induction i with
  | zero =>
    intro _
    have e : ((0 : Nat) : Rat) = 0 := rfl
    rw [e, Rat.zero_mul, Rat.zero_mul]
    exact ⟨.of qv_zero, .of qv_zero, .of qv_zero⟩
  | succ i ih =>
    intro hi
    have ih := ih (Nat.le_of_lt hi)
    have hi2 : i < ws.length := by omega
    have f0 := hf i hi2
    have f1 := f0.1
    have hx2 := fun j hj => (hx j hj).2
    show nr3 (add3 (Go.Proofs.Ytnclpojljgpadaa.sumA (setW ws x) p z3 i) (wireF ((setW ws x).getD i zw) p)) _ _ _ _
    rw [setW_get hi, h.wf hi]
    exact ⟨wd_step hi h.n3 ih.x f1.x (hx i hi).1 (fun j hj => (hf j hj).2.x) hx2, wd_step hi h.n3 ih.y f1.y (hx i hi).1 (fun j hj => (hf j hj).2.y) hx2, wd_step hi h.n3 ih.z f1.z (hx i hi).1 (fun j hj => (hf j hj).2.z) hx2⟩
end
end
end Go.Proofs.Ytnclpojljgpadaa


namespace Go.Proofs.Ytnclpojljgpadaa
open Go.RowKit

set_option maxRecDepth 20000
attribute [local irreducible] D9 D7 UU WW W9 sumW segF fop wireF
def wantAt (ws : List Wr) (x : List Nat) (way p : V3) : Nat := inner3 (fieldI (setW ws x) p) way
def wantL (ws : List Wr) (x : List Nat) (vs : List V3) (way : V3) (n : Nat) : List Nat := (List.range n).map fun i => wantAt ws x way (vs.getD i z3)
theorem nr.qv {x : Nat} {v E : Rat} (h : nr x v E) : ∃ z, Go.Proofs.Ytnclpojljgpadaa.qv x z := by obtain ⟨z, a, _⟩ := h; exact ⟨z, a⟩
theorem nr3.qv {w : V3} {a b c E : Rat} (h : nr3 w a b c E) : ∃ a b c, qv3 w a b c := by
  obtain ⟨a, ha⟩ := h.x.qv
  obtain ⟨b, hb⟩ := h.y.qv
  obtain ⟨c, hc⟩ := h.z.qv
  exact ⟨a, b, c, ha, hb, hc⟩
theorem one_is : ((33554432 : Int) : Rat) * c25 = 1 := by decide +kernel
theorem rs_lin (a b ξ : Nat → Rat) (ω : Rat) : ∀ n, rs (fun j => (a j * ω + b j) * ξ j) n = rs (fun j => a j * ξ j) n * ω + rs (fun j => b j * ξ j) n
  | 0 => by show (0 : Rat) = 0 * ω + 0; grind
  | n + 1 => by
    show rs _ n + _ = (rs _ n + _) * ω + (rs _ n + _)
    rw [rs_lin a b ξ ω n]
    grind
theorem wd_num2 {e i U : Rat} (hU : 0 ≤ U) (h2 : i ≤ 2) (hu : 200000 * U ≤ 1 / 10) (he : e = i * 23400 * U) : 4554 + e + 14240 * U ≤ 1000000000000000000 ∧ e + 14240 * U + (1 + 2 * (4554 + e + 14240 * U)) * U ≤ (i + 1) * 23400 * U := by
  have k1 : e ≤ 46800 * U := by rw [he]; exact Rat.mul_le_mul_of_nonneg_right (by grind) hU
  refine ⟨by grind, ?_⟩
  have k3 : (1 + 2 * (4554 + e + 14240 * U)) * U ≤ 9150 * U := Rat.mul_le_mul_of_nonneg_right (by grind) hU
  have e2 : (i + 1) * 23400 * U = e + 23400 * U := by rw [he]; grind
  rw [e2]
  grind
theorem wd_step2 {φ ξ : Nat → Rat} {z w c i n : Nat} (hn : i < n) (h3 : n ≤ 3) (hz : nr z (rs (fun j => φ j * ξ j) i) ((i : Rat) * 23400 * u24)) (hw : nr w (φ i) (5600 * u24)) (hc : qv c (ξ i)) (hg : ∀ j, j < n → Rg (φ j) 759) (hx : ∀ j, j < n → Rg (ξ j) 2) :
    nr (fop .add .f32 z (fop .mul .f32 w c)) (rs (fun j => φ j * ξ j) (i + 1)) (((i + 1 : Nat) : Rat) * 23400 * u24) := by
  have e1 : ((i + 1 : Nat) : Rat) = (i : Rat) + 1 := by rw [Rat.natCast_add]; rfl
  have hi3 := i3 hn h3
  have hm := nr_mul hw (.of hc) (hg i hn) (hx i hn) (G := 14240 * u24) (by decide +kernel) (by decide +kernel)
  have hb := rs_rg (g := fun j => φ j * ξ j) (n := n) (B := 1518) (fun j hj => (rmul (hg j hj) (hx j hj)).mono (by decide +kernel)) (i + 1) hn
  have hb2 : Rg (rs (fun j => φ j * ξ j) i + φ i * ξ i) 4554 := hb.mono (by rw [e1]; grind)
  obtain ⟨s1, s2⟩ := wd_num2 (U := u24) (by decide +kernel) hi3.2 (by decide +kernel) rfl
  exact nr_add hz hm hb2 s1 (by rw [e1]; exact s2)
/-- The product with a way. -/
theorem way_nr {f w : V3} {a b c ω : Rat} (hf : nr3 f a b c (12180 * u24)) (h : Rg3 a b c 1518) (hw : qv w.1 ω) (hω : Rg ω 2) (h2 : qv w.2.1 0) (h3 : qv w.2.2 1) : nr (inner3 f w) (a * ω + c) (61000 * u24) := by
  have m1 := nr_mul hf.x (.of hw) h.x hω (G := 30440 * u24) (by decide +kernel) (by decide +kernel)
  have r0 : Rg (0 : Rat) 0 := ⟨by decide +kernel, by decide +kernel⟩
  have r1 : Rg (1 : Rat) 1 := ⟨by decide +kernel, by decide +kernel⟩
  have m2 := nr_mul hf.y (.of h2) h.y r0 (G := 2 * u24) (by decide +kernel) (by decide +kernel)
  have m3 := nr_mul hf.z (.of h3) h.z r1 (G := 15230 * u24) (by decide +kernel) (by decide +kernel)
  rw [Rat.mul_zero] at m2
  rw [Rat.mul_one] at m3
  have b1 : Rg (a * ω + 0) 3036 := by rw [Rat.add_zero]; exact (rmul h.x hω).mono (by decide +kernel)
  have s1 := nr_add m1 m2 b1 (G := 36530 * u24) (by decide +kernel) (by decide +kernel)
  rw [Rat.add_zero] at s1 b1
  exact nr_add s1 m3 ((b1.add h.z).mono (B := 4554) (by decide +kernel)) (by decide +kernel) (by decide +kernel)
theorem row_nr {f w : V3} {a b c ω : Rat} (hf : qv3 f a b c) (h : Rg3 a b c 253) (hw : qv w.1 ω) (hω : Rg ω 2) (h2 : qv w.2.1 0) (h3 : qv w.2.2 1) : nr (inner3 w (scale3 f 1065353216)) (a * ω + c) (5600 * u24) ∧ Rg (a * ω + c) 759 := by
  have h1 : qv 1065353216 1 := by have := vb_qv one_vb; rwa [one_is] at this
  have r0 : Rg (0 : Rat) 0 := ⟨by decide +kernel, by decide +kernel⟩
  have r1 : Rg (1 : Rat) 1 := ⟨by decide +kernel, by decide +kernel⟩
  have key : ∀ {x : Nat} {v : Rat}, qv x v → Rg v 253 → nr (fop .mul .f32 x 1065353216) v (508 * u24) := fun hx hv => by
    have := nr_mul (.of hx) (.of h1) hv r1 (G := 508 * u24) (by decide +kernel) (by decide +kernel)
    rwa [Rat.mul_one] at this
  have m1 := nr_mul (.of hw) (key hf.x h.x) hω h.x (G := 2040 * u24) (by decide +kernel) (by decide +kernel)
  have m2 := nr_mul (.of h2) (key hf.y h.y) r0 h.y (G := 2 * u24) (by decide +kernel) (by decide +kernel)
  have m3 := nr_mul (.of h3) (key hf.z h.z) r1 h.z (G := 1020 * u24) (by decide +kernel) (by decide +kernel)
  rw [Rat.zero_mul] at m2
  rw [Rat.one_mul] at m3
  rw [Rat.mul_comm ω a] at m1
  have b1 : Rg (a * ω + 0) 506 := by rw [Rat.add_zero]; exact (rmul h.x hω).mono (by decide +kernel)
  have s1 := nr_add m1 m2 b1 (G := 3060 * u24) (by decide +kernel) (by decide +kernel)
  rw [Rat.add_zero] at s1 b1
  have b2 := (b1.add h.z).mono (B := 759) (by decide +kernel)
  exact ⟨nr_add s1 m3 b2 (by decide +kernel) (by decide +kernel), b2⟩
section
variable {ws : List Wr} {x : List Nat} {vs : List V3} {way p : V3}
theorem WD.wayq (h : WD ws x vs way) : ∃ ω, qv way.1 ω ∧ Rg ω 2 ∧ qv way.2.1 0 ∧ qv way.2.2 1 := by
  obtain ⟨k, hk, rfl⟩ := h.wy
  have h1 : qv 1065353216 1 := by have := vb_qv one_vb; rwa [one_is] at this
  have h2 := vb_qv (way_vb ⟨k, hk⟩)
  refine ⟨_, h2, ?_, qv_zero, h1⟩
  have e : (((((⟨k, hk⟩ : Fin 3).val : Int) * 33554432 : Int)) : Rat) * c25 = (k : Rat) := by
    rw [Rat.intCast_mul, Rat.mul_assoc, one_is, Rat.mul_one]; rfl
  rw [e]
  have k1 : (0 : Rat) ≤ (k : Rat) := Rat.natCast_nonneg
  have k2 : (k : Rat) ≤ 2 := Rat.natCast_le_natCast.2 (show k ≤ 2 by omega)
  constructor <;> grind
theorem rs3 {g : Nat → Rat} {n : Nat} (hn : n ≤ 3) (h : ∀ j, j < n → Rg (g j) 506) : Rg (rs g n) 1518 := by
  have h1 := rs_rg h n (Nat.le_refl _)
  have k2 : (n : Rat) ≤ 3 := Rat.natCast_le_natCast.2 hn
  exact h1.mono (by grind)
/-- What is wanted at a place, and what the row makes there. -/
theorem WD.at (h : WD ws x vs way) (hp : Pt p) : ∃ v : Rat, fin3 (fieldI (setW ws x) p) = true ∧ nr (wantAt ws x way p) v (61000 * u24) ∧ Rg v 4554 ∧ nr (dotK (dRow ws way p ws.length) x ws.length) v (70200 * u24) ∧ ∀ j, j < ws.length → fin ((dRow ws way p ws.length).getD j 0) = true := by
  obtain ⟨f, ξ, hf, hx⟩ := h.vals hp
  obtain ⟨ω, w1, w2, w3, w4⟩ := h.wayq
  have hn3 := h.n3
  have hnq : (ws.length : Rat) ≤ 3 := Rat.natCast_le_natCast.2 hn3
  have hS := h.sumA hf hx ws.length (Nat.le_refl _)
  have hF : fieldI (setW ws x) p = Go.Proofs.Ytnclpojljgpadaa.sumA (setW ws x) p z3 ws.length := by unfold fieldI; rw [setW_length]
  have hE : (ws.length : Rat) * 4060 * u24 ≤ 12180 * u24 := Rat.mul_le_mul_of_nonneg_right (by grind) (by decide +kernel)
  have hS2 : nr3 (fieldI (setW ws x) p) (rs (fun j => (f j).1 * ξ j) ws.length) (rs (fun j => (f j).2.1 * ξ j) ws.length) (rs (fun j => (f j).2.2 * ξ j) ws.length) (12180 * u24) := by
    rw [hF]
    exact ⟨hS.x.mono hE, hS.y.mono hE, hS.z.mono hE⟩
  have hb : Rg3 (rs (fun j => (f j).1 * ξ j) ws.length) (rs (fun j => (f j).2.1 * ξ j) ws.length) (rs (fun j => (f j).2.2 * ξ j) ws.length) 1518 :=
    ⟨rs3 hn3 fun j hj => (rmul (hf j hj).2.x (hx j hj).2).mono (by decide +kernel), rs3 hn3 fun j hj => (rmul (hf j hj).2.y (hx j hj).2).mono (by decide +kernel), rs3 hn3 fun j hj => (rmul (hf j hj).2.z (hx j hj).2).mono (by decide +kernel)⟩
  have hw := way_nr hS2 hb w1 w2 w3 w4
  rw [← rs_lin] at hw
  have hrow : ∀ j, j < ws.length → (dRow ws way p ws.length).getD j 0 = inner3 way (scale3 (sumW (ws.getD j zw) p 6) 1065353216) := fun j hj => by
    have e : (dRow ws way p ws.length).getD j 0 = inner3 way (coF ws p j) := by simp [dRow, List.getD, hj]
    rw [e]
    unfold coF
    rw [h.wf hj]
  have hr : ∀ j, j < ws.length → nr ((dRow ws way p ws.length).getD j 0) ((f j).1 * ω + (f j).2.2) (5600 * u24) ∧ Rg ((f j).1 * ω + (f j).2.2) 759 := fun j hj => by
    rw [hrow j hj]
    exact row_nr (hf j hj).1 (hf j hj).2 w1 w2 w3 w4
  have hd : ∀ i, i ≤ ws.length → nr (dotK (dRow ws way p ws.length) x i) (rs (fun j => ((f j).1 * ω + (f j).2.2) * ξ j) i) ((i : Rat) * 23400 * u24) := by
    intro i
    induction i with
    | zero =>
      intro _
      have e : ((0 : Nat) : Rat) = 0 := rfl
      rw [e, Rat.zero_mul, Rat.zero_mul]
      exact .of qv_zero
    | succ i ih =>
      intro hi
      exact wd_step2 (φ := fun j => (f j).1 * ω + (f j).2.2) hi hn3 (ih (Nat.le_of_lt hi)) (hr i hi).1 (hx i hi).1 (fun j hj => (hr j hj).2) (fun j hj => (hx j hj).2)
  have hv : Rg (rs (fun j => ((f j).1 * ω + (f j).2.2) * ξ j) ws.length) 4554 := by
    have h1 := rs_rg (g := fun j => ((f j).1 * ω + (f j).2.2) * ξ j) (B := 1518) (fun j hj => (rmul (hr j hj).2 (hx j hj).2).mono (by decide +kernel)) ws.length (Nat.le_refl _)
    exact h1.mono (by grind)
  obtain ⟨_, _, _, hq⟩ := hS2.qv
  refine ⟨_, qv3_fin hq, hw, hv, (hd ws.length (Nat.le_refl _)).mono (Rat.mul_le_mul_of_nonneg_right (by grind) (by decide +kernel)), fun j hj => ?_⟩
  obtain ⟨_, hq2⟩ := (hr j hj).1.qv
  exact qv_fin hq2
end
end Go.Proofs.Ytnclpojljgpadaa


namespace Go.Proofs.Ytnclpojljgpadaa
open Go.RowKit

set_option maxRecDepth 20000
attribute [local irreducible] D9 D7 UU WW W9 sumW segF fop wireF
section
variable {x y : Nat} {p q : Rat}
theorem qv_cmpq (hx : qv x p) (hy : qv y q) : FloatKind.f32.format.order x y = some (if p < q then .lt else if p = q then .eq else .gt) := by
  obtain ⟨X, hX, eX⟩ := hx
  obtain ⟨Y, hY, eY⟩ := hy
  rw [qv_cmp hX hY]
  have key : X < Y ↔ p < q := by
    rw [← Rat.intCast_lt_intCast, eX, eY]
    exact ⟨fun h => Rat.lt_of_mul_lt_mul_right h (Rat.le_of_lt WW_pos), fun h => Rat.mul_lt_mul_of_pos_right h WW_pos⟩
  have key2 : X = Y ↔ p = q := by
    rw [← Rat.intCast_inj, eX, eY]
    have := WW_pos
    exact ⟨fun h => Rat.le_antisymm (Rat.le_of_mul_le_mul_right (by rw [h]; exact Rat.le_refl) this) (Rat.le_of_mul_le_mul_right (by rw [h]; exact Rat.le_refl) this), fun h => by rw [h]⟩
  rcases Int.lt_trichotomy X Y with h | h | h
  · rw [Int.compare_eq_lt.2 h, if_pos (key.1 h)]
  · rw [compare_eq.2 h, if_neg (fun g => by have := key.2 g; omega), if_pos (key2.1 h)]
  · rw [Int.compare_eq_gt.2 h, if_neg (fun g => by have := key.2 g; omega), if_neg (fun g => by have := key2.2 g; omega)]
theorem qv_lss (hx : qv x p) (hy : qv y q) : fcmp .lss .f32 x y = decide (p < q) := by
  show (FloatKind.f32.format.order x y == some .lt) = _
  rw [qv_cmpq hx hy]
  by_cases h : p < q
  · rw [if_pos h, decide_eq_true h]; rfl
  · rw [if_neg h, decide_eq_false h]
    split <;> rfl
theorem qv_gtr (hx : qv x p) (hy : qv y q) : fcmp .gtr .f32 x y = decide (q < p) := by
  show (FloatKind.f32.format.order x y == some .gt) = _
  rw [qv_cmpq hx hy]
  by_cases h : p < q
  · rw [if_pos h, decide_eq_false (by grind)]; rfl
  · rw [if_neg h]
    by_cases h2 : p = q
    · rw [if_pos h2, decide_eq_false (by grind)]; rfl
    · rw [if_neg h2, decide_eq_true (by grind)]; rfl
theorem qv_neq (hx : qv x p) (hy : qv y p) : fcmp .neq .f32 x y = false := by
  show (!(FloatKind.f32.format.order x y == some .eq)) = false
  rw [qv_cmpq hx hy, if_neg (by grind), if_pos rfl]; rfl
/-- A difference that is not negative stays so. -/
theorem qv_sub_nn (hx : qv x p) (hy : qv y q) (h : q ≤ p) (hB : Rg (p - q) 10000) : ∃ z, qv (fop .sub .f32 x y) z ∧ 0 ≤ z := by
  by_cases he : p = q
  · subst he
    exact ⟨0, qv_sub_eq hx hy, Rat.le_refl⟩
  · obtain ⟨z, hz, _⟩ := rd_sub hx hy hB (by decide +kernel)
    refine ⟨z, hz, ?_⟩
    obtain ⟨X, hX, eX⟩ := hx
    obtain ⟨Y, hY, eY⟩ := hy
    obtain ⟨Z, hZ, eZ⟩ := hz
    obtain ⟨s, M, k, e1, e2, e3, e4⟩ := sum_units hX.2.1 hY.2.1 true
    simp only [if_true] at e1 e2 e3 e4
    rw [hX.2.2, hY.2.2] at e3 e4
    have hXY : Y < X := by
      rw [← Rat.intCast_lt_intCast, eX, eY]
      exact Rat.mul_lt_mul_of_pos_right (by grind) WW_pos
    have hs : s = false := by
      cases s with
      | false => rfl
      | true => have := e3 rfl; omega
    subst hs
    have hw : ∃ r, fop .sub .f32 x y = FloatKind.f32.format.word false r ∧ r ≤ FloatKind.f32.format.infRung := by
      have e0 : fop .sub .f32 x y = ((((FloatKind.f32.format.read x).sum (FloatKind.f32.format.read y).opposite).map FloatKind.f32.format.write).getD (qn .f32)) := by unfold fop; rfl
      rw [e0, e1]
      show ∃ r, FloatKind.f32.format.nearest false M _ = _ ∧ _
      unfold Ieee.Format.nearest
      split
      · exact ⟨0, rfl, Nat.zero_le _⟩
      · exact ⟨_, rfl, Nat.min_le_right _ _⟩
    obtain ⟨r, hr1, hr2⟩ := hw
    have hsg : sgn FloatKind.f32.format (fop .sub .f32 x y) = false := by rw [hr1]; exact (rng_word .f32 false hr2).2
    have hZ0 := hZ.sgn.2 hsg
    have h0 : (0 : Rat) ≤ (Z : Rat) := Rat.intCast_le_intCast.2 hZ0
    rw [eZ] at h0
    exact Rat.le_of_mul_le_mul_right (c := WW) (by rw [Rat.zero_mul]; exact h0) WW_pos
end
/-! ### how flat -/
theorem fl_num1 {v l h : Rat} (g : v < l) (hlh : l ≤ h) : v ≤ h ∧ ¬ h < v := ⟨by grind, by grind⟩
theorem fl_num2 {v l h : Rat} (g : h < v) (hlh : l ≤ h) : l ≤ v := by grind
theorem fl_step {x : Nat} {v l h : Rat} {s : Nat × Nat × Bool} (hx : qv x v) (hs : s.2.2 = true) (h1 : qv s.1 l) (h2 : qv s.2.1 h) (hlh : l ≤ h) (hv : Rg v 5000) (hl : Rg l 5000) (hh : Rg h 5000) :
    ∃ l h, (flN x true s).2.2 = true ∧ qv (flN x true s).1 l ∧ qv (flN x true s).2.1 h ∧ l ≤ h ∧ Rg l 5000 ∧ Rg h 5000 := by
  rw [flN_yes rfl (qv_neq hx hx), hs, qv_lss hx h1, qv_gtr hx h2]
  by_cases g1 : v < l
  · refine ⟨v, h, rfl, ?_, ?_, (fl_num1 g1 hlh).1, hv, hh⟩
    · rw [decide_eq_true g1]; exact hx
    · rw [decide_eq_false (fl_num1 g1 hlh).2]; exact h2
  · by_cases g2 : h < v
    · refine ⟨l, v, rfl, ?_, ?_, fl_num2 g2 hlh, hl, hv⟩
      · rw [decide_eq_false g1]; exact h1
      · rw [decide_eq_true g2]; exact hx
    · refine ⟨l, h, rfl, ?_, ?_, hlh, hl, hh⟩
      · rw [decide_eq_false g1]; exact h1
      · rw [decide_eq_false g2]; exact h2
theorem fl_all {ws : List Wr} {vs : List V3} {way : V3} (h : ∀ k, k < vs.length → fin3 (fieldI ws (vs.getD k z3)) = true ∧ ∃ v, qv (flX ws vs way k) v ∧ Rg v 5000) : ∀ k, k + 1 ≤ vs.length →
    ∃ l h, (flK ws vs way (k + 1)).2.2 = true ∧ qv (flK ws vs way (k + 1)).1 l ∧ qv (flK ws vs way (k + 1)).2.1 h ∧ l ≤ h ∧ Rg l 5000 ∧ Rg h 5000
  | 0, hk => by
    obtain ⟨h1, v, h2, h3⟩ := h 0 hk
    have e : flK ws vs way (0 + 1) = (flX ws vs way 0, flX ws vs way 0, true) := by
      show flN (flX ws vs way 0) (fin3 (fieldI ws (vs.getD 0 z3))) (0, 0, false) = _
      rw [h1, flN_yes rfl (qv_neq h2 h2)]; rfl
    rw [e]
    exact ⟨v, v, rfl, h2, h2, Rat.le_refl, h3, h3⟩
  | k + 1, hk => by
    obtain ⟨l, u, a1, a2, a3, a4, a5, a6⟩ := fl_all h k (by omega)
    obtain ⟨h1, v, h2, h3⟩ := h (k + 1) hk
    have e : flK ws vs way (k + 1 + 1) = flN (flX ws vs way (k + 1)) (fin3 (fieldI ws (vs.getD (k + 1) z3))) (flK ws vs way (k + 1)) := rfl
    rw [e, h1]
    exact fl_step h2 a1 a2 a3 a4 h3 a5 a6
/-! ### gaps in doubles -/
def gapV (a b : Nat) : Nat := if fcmp .lss .f64 a b then fop .sub .f64 b a else fop .sub .f64 a b
theorem dv_zero : dv 0 0 := ⟨0, ⟨by decide, by
  have h : rng FloatKind.f64.format 0 = 0 := by decide
  have h2 : sgn FloatKind.f64.format 0 = false := by decide
  unfold sval
  rw [h, h2, (units_zero FloatKind.f64.format).2 rfl]; rfl⟩, by rw [Rat.zero_mul]; rfl⟩
theorem gap_dv {x : Nat} {v B : Rat} (h : qv x v) (hv : Rg v B) : ∃ d, dv (gapV (up x) 0) d ∧ 0 ≤ d ∧ d ≤ B := by
  have h1 := qv_up h
  have h0 := dv_zero
  unfold gapV
  rw [dv_lss h1 h0]
  obtain ⟨b1, b2⟩ := hv
  by_cases g : v < 0
  · rw [decide_eq_true g, if_pos rfl]
    obtain ⟨V, a1, a2⟩ := h1
    obtain ⟨U, c1, c2⟩ := h0
    rw [Rat.zero_mul] at c2
    have hU : U = 0 := Rat.intCast_inj.1 c2
    subst hU
    have hs := apd_sum0 true (V := 0) (U := V) (x := 0) (y := up x) c1 a1 (r := rng FloatKind.f64.format (up x)) a1.1 (by simp only [if_true]; rw [a1.units]; omega)
    simp only [if_true] at hs
    have e0 : fop .sub .f64 0 (up x) = (((FloatKind.f64.format.read 0).sum (FloatKind.f64.format.read (up x)).opposite).map FloatKind.f64.format.write).getD (qn .f64) := by unfold fop; rfl
    rw [← e0] at hs
    refine ⟨-v, ⟨0 + -V, hs, by rw [Int.zero_add, Rat.intCast_neg, a2]; grind⟩, by grind, by grind⟩
  · rw [decide_eq_false g, if_neg (by decide)]
    obtain ⟨U, c1, c2⟩ := h0
    rw [Rat.zero_mul] at c2
    have hU : U = 0 := Rat.intCast_inj.1 c2
    subst hU
    exact ⟨v, dv_sub0 h1 c1, by grind, b2⟩
end Go.Proofs.Ytnclpojljgpadaa


namespace Go.Proofs.Ytnclpojljgpadaa
open Go.RowKit

set_option maxRecDepth 20000
theorem dv_c01 : dv 4576918229304087675 (5764607523034235 / 576460752303423488) := ⟨5764607523034235 * 2 ^ 1015, ⟨by decide +kernel, by decide +kernel⟩, by decide +kernel⟩
theorem up_one : up 1065353216 = 4607182418800017408 := by decide +kernel
attribute [local irreducible] D9 D7 UU WW W9 sumW segF fop wireF
theorem least_one : least 1065353216 = true := by decide +kernel
theorem one_qv : qv 1065353216 1 := by have := vb_qv one_vb; rwa [one_is] at this
theorem Pt.fin3 {p : V3} (h : Pt p) : Go.Proofs.Ytnclpojljgpadaa.fin3 p = true := by obtain ⟨_, _, _, _, _, _, hq⟩ := h; exact qv3_fin hq
theorem rg_zero {v E : Rat} (h : v - v = 0) (hE : 0 ≤ E) : Rg (v - v) E := by rw [h]; exact ⟨by grind, hE⟩
theorem sub_self0 (v : Rat) : v - v = 0 := by grind
theorem wd_diff {l u : Rat} (a : Rg l 5000) (b : Rg u 5000) : Rg (u - l) 10000 := by obtain ⟨p1, p2⟩ := a; obtain ⟨q1, q2⟩ := b; constructor <;> grind
theorem wd_g2 {e : Rat} (h : 0 ≤ e) (h2 : e ≤ 4600) : -8192 ≤ 1 + e ∧ 1 + e ≤ 8192 := ⟨by grind, by grind⟩
theorem wd_last {e z C : Rat} (h0 : 0 ≤ e) (h1 : e ≤ 4600) (ha : 1 + e - 8192 / 9007199254740992 ≤ z) (hb : z ≤ 1 + e + 8192 / 9007199254740992) (hC : C = 5764607523034235 / 576460752303423488) :
    -64 ≤ C * z ∧ C * z ≤ 64 ∧ 79 / 10000 ≤ C * z - 64 / 9007199254740992 := by
  have k1 : (99 / 100 : Rat) ≤ z := by grind
  have k2 : z ≤ 5000 := by grind
  have c0 : (0 : Rat) ≤ C := by rw [hC]; decide +kernel
  have m1 := Rat.mul_le_mul_of_nonneg_left k1 c0
  have m2 := Rat.mul_le_mul_of_nonneg_left k2 c0
  have c1 : (-64 : Rat) ≤ C * (99 / 100) := by rw [hC]; decide +kernel
  have c2 : C * 5000 ≤ (64 : Rat) := by rw [hC]; decide +kernel
  have c3 : (79 / 10000 : Rat) + 64 / 9007199254740992 ≤ C * (99 / 100) := by rw [hC]; decide +kernel
  clear hC ha hb h0 h1 k1 k2 c0
  refine ⟨by grind, by grind, by grind⟩
section
variable {ws : List Wr} {x : List Nat} {vs : List V3} {way : V3}
theorem WD.pts (h : WD ws x vs way) {k : Nat} (hk : k < vs.length) : Pt (vs.getD k z3) := h.pt k (by have := h.v3; omega)
theorem WD.dp (h : WD ws x vs way) : dpOk vs = true := (dp_yes (by rw [h.v3]; omega) fun k hk => (h.pts hk).fin3).symm
theorem WD.dp1 (h : WD ws x vs way) : dpOk [vs.getD 0 z3] = true := (dp_yes ⟨Nat.le_refl _, by show 1 ≤ 48; decide⟩ fun k hk => by
  obtain rfl : k = 0 := by have : k < 1 := hk; omega
  exact (h.pt 0 (by decide)).fin3).symm
theorem wantL_length {n : Nat} : (wantL ws x vs way n).length = n := by simp [wantL]
theorem wantL_get {n i : Nat} (hi : i < n) : (wantL ws x vs way n).getD i 0 = wantAt ws x way (vs.getD i z3) := getD_range n _ hi
theorem wantL_snoc {n : Nat} : wantL ws x vs way n ++ [wantAt ws x way (vs.getD n z3)] = wantL ws x vs way (n + 1) := by simp [wantL, List.range_succ]
theorem wantL_fin (h : WD ws x vs way) {n : Nat} (hn : n ≤ 3) : (wantL ws x vs way n).all fin = true := by
  rw [List.all_eq_true]
  intro y hy
  obtain ⟨i, hi, rfl⟩ := List.mem_map.1 hy
  obtain ⟨v, _, hw, _⟩ := h.at (h.pt i (by have := List.mem_range.1 hi; omega))
  obtain ⟨_, hq⟩ := hw.qv
  exact qv_fin hq
theorem WD.valid (h : WD ws x vs way) : validD (dX ws vs way) (wantL ws x vs way 3) (dG vs.length) = true := by
  have h3 := h.v3
  have hn := h.n3
  have hn1 := h.n1
  have e0 : ((dX ws vs way).getD 0 []).length = ws.length := by rw [dX_get (by omega), dRow_length]
  refine valid_yes ⟨by rw [dX_length]; omega, by rw [dX_length]; omega, by rw [dX_length, dG_length], by rw [dX_length, wantL_length]; exact h3.symm, wantL_fin h (Nat.le_refl _), fun i hi => ?_, by rw [e0]; exact hn1, by rw [e0]; omega⟩
  rw [dX_length] at hi
  rw [e0, dX_get hi, dRow_length, dG_get hi]
  refine ⟨rfl, ?_, least_one⟩
  obtain ⟨v, _, _, _, _, hr⟩ := h.at (h.pts hi)
  rw [List.all_eq_true]
  intro y hy
  obtain ⟨j, hj, rfl⟩ := List.getElem_of_mem hy
  rw [dRow_length] at hj
  have := hr j hj
  rwa [List.getD_eq_getElem?_getD, List.getElem?_eq_getElem (by rw [dRow_length]; exact hj)] at this
theorem WD.ds (h : WD ws x vs way) : dsOk ws vs way (wantL ws x vs way 3) = true := ds_yes h.dw h.dp (by rw [wantL_length, h.v3]) h.valid
theorem WD.fits (h : WD ws x vs way) : fitsD (dX ws vs way) (wantL ws x vs way 3) (dG vs.length) x = true := by
  have e0 : ((dX ws vs way).getD 0 []).length = ws.length := by rw [dX_get (by have := h.v3; omega), dRow_length]
  unfold fitsD
  rw [h.valid, decide_eq_true (by rw [e0]; exact h.xl)]; rfl
theorem WD.xs (h : WD ws x vs way) {k : Nat} (hk : k < vs.length) : ∃ v, qv (flX (setW ws x) vs way k) v ∧ Rg v 4600 := by
  obtain ⟨v, _, ⟨z, hz, hr⟩, hv, _⟩ := h.at (h.pts hk)
  refine ⟨z, hz, ?_⟩
  have : z = v + (z - v) := by grind
  rw [this]
  exact (hv.add hr).mono (by decide +kernel)
theorem WD.fl3 (h : WD ws x vs way) : flOk (setW ws x) vs way = true ∧ fcmp .lss .f32 (flF (setW ws x) vs way) 0 = false := by
  have h3 := h.v3
  obtain ⟨l, u, a1, a2, a3, a4, a5, a6⟩ := fl_all (ws := setW ws x) (vs := vs) (way := way) (fun k hk => by
    obtain ⟨_, hf, _⟩ := h.at (h.pts hk)
    obtain ⟨v, hv, hr⟩ := h.xs hk
    exact ⟨hf, v, hv, hr.mono (by decide +kernel)⟩) 2 (by omega)
  have e : (2 + 1 : Nat) = vs.length := by omega
  rw [e] at a1 a2 a3
  have hok : flOk (setW ws x) vs way = true := by unfold flOk; rw [h.fed, h.dp, a1]; rfl
  refine ⟨hok, ?_⟩
  obtain ⟨z, hz, h0⟩ := qv_sub_nn a3 a2 a4 (wd_diff a5 a6)
  unfold flF
  rw [hok, if_pos rfl, qv_lss hz qv_zero]
  exact decide_eq_false (Rat.not_lt.2 h0)
theorem WD.fl1 (h : WD ws x vs way) : flOk (setW ws x) [vs.getD 0 z3] way = true ∧ fcmp .neq .f32 (flF (setW ws x) [vs.getD 0 z3] way) 0 = false := by
  have h3 := h.v3
  obtain ⟨_, hf, _⟩ := h.at (h.pts (k := 0) (by omega))
  obtain ⟨v, hv, hr⟩ := h.xs (k := 0) (by omega)
  have e : flK (setW ws x) [vs.getD 0 z3] way [vs.getD 0 z3].length = (flX (setW ws x) vs way 0, flX (setW ws x) vs way 0, true) := by
    show flN (flX (setW ws x) vs way 0) (Go.Proofs.Ytnclpojljgpadaa.fin3 (fieldI (setW ws x) (vs.getD 0 z3))) (0, 0, false) = _
    rw [hf, flN_yes rfl (qv_neq hv hv)]; rfl
  have hok : flOk (setW ws x) [vs.getD 0 z3] way = true := by unfold flOk; rw [h.fed, h.dp1, e]; rfl
  refine ⟨hok, ?_⟩
  unfold flF
  rw [hok, if_pos rfl, e]
  exact qv_neq (qv_sub_eq hv hv) qv_zero
/-- A miss is small beside what is wanted. -/
theorem WD.miss (h : WD ws x vs way) {i : Nat} (hi : i < 3) : fcmp .gtr .f64 (gapV (up ((missL (dX ws vs way) (wantL ws x vs way 3) x (dX ws vs way).length).getD i 0)) 0) (fop .mul .f64 4576918229304087675 (fop .add .f64 4607182418800017408 (gapV (up ((wantL ws x vs way 3).getD i 0)) 0))) = false := by
  have h3 := h.v3
  have hi3 : i < vs.length := by omega
  rw [missL_get _ _ _ (by rw [dX_length]; exact hi3), wantL_get hi]
  unfold missAt
  rw [wantL_get hi, dX_get hi3, h.xl]
  obtain ⟨v, _, hw, hv, hd, _⟩ := h.at (h.pts hi3)
  obtain ⟨z, hz, hr⟩ := nr_sub hw hd (A := 0) (rg_zero (sub_self0 v) Rat.le_refl) (G := 132000 * u24) (by decide +kernel) (by decide +kernel)
  have e0 : z - (v - v) = z := by grind
  rw [e0] at hr
  obtain ⟨g1, k1, k2, k3⟩ := gap_dv hz hr
  obtain ⟨y, hy, hyr⟩ := h.xs hi3
  obtain ⟨g2, l1, l2, l3⟩ := gap_dv hy hyr
  have one : dv 4607182418800017408 1 := by have := qv_up one_qv; rwa [up_one] at this
  obtain ⟨s, s1, s2, s3⟩ := dv_add (K := 8192) (k := 13) (show (8192 : Rat) = ((2 ^ 13 : Nat) : Rat) by decide +kernel) (by decide) one l1 (wd_g2 l2 l3).1 (wd_g2 l2 l3).2
  obtain ⟨t1, t2, t3⟩ := wd_last l2 l3 s2 s3 rfl
  obtain ⟨m, m1, m2, m3⟩ := dv_mul2 (K := 64) (k := 6) (show (64 : Rat) = ((2 ^ 6 : Nat) : Rat) by decide +kernel) (by decide) dv_c01 s1 t1 t2
  refine dv_ngt k1 m1 (Rat.le_trans k3 (Rat.le_trans ?_ (Rat.le_trans t3 m2)))
  decide +kernel
end
end Go.Proofs.Ytnclpojljgpadaa


namespace Go.Proofs.Ytnclpojljgpadaa
open Go.RowKit

set_option maxRecDepth 20000
theorem sin_is {y : Nat} {i : Int} (h : sinOk y i = true) : fcmp .neq .f64 (fop .sub .f64 y y) 0 = false ∧ fcmp .geq .f64 y 4841369599423283200 = false ∧ fcmp .leq .f64 y 14064741636278059008 = false ∧ floatToIntVal .f64 y .i64 = some i ∧ fcmp .lss .f64 (fop .sub .f64 y (FloatKind.f64.nearest i)) 0 = false ∧ fover .f64 .f32 (sinR y i) = false := by
  unfold sinOk at h
  simp only [Bool.and_eq_true, Bool.not_eq_true', beq_iff_eq] at h
  exact ⟨h.1.1.1.1.1, h.1.1.1.1.2, h.1.1.1.2, h.1.1.2, h.1.2, h.2⟩
theorem sinP_step {u k : Nat} (h1 : 1 ≤ k) (h8 : k ≤ 8) : fop .sub .f64 4607182418800017408 (fop .quo .f64 (fop .mul .f64 u (sinP u (8 - k))) (FloatKind.f64.nearest (((2 * k) * (2 * k + 1) : Nat) : Int))) = sinP u (8 - (k - 1)) := by
  have e : 8 - (k - 1) = (8 - k) + 1 := by omega
  rw [e]
  show _ = fop .sub .f64 4607182418800017408 (fop .quo .f64 (fop .mul .f64 u (sinP u (8 - k))) (FloatKind.f64.nearest (((2 * (8 - (8 - k))) * (2 * (8 - (8 - k)) + 1) : Nat) : Int)))
  rw [show 8 - (8 - k) = k by omega]
section
variable {y : Nat} {i : Int}
theorem sin_r11 (h1 : fcmp .geq .f64 (fop .sub .f64 y (FloatKind.f64.nearest i)) 4602678819172646912 = true) : sin1 y i = fop .sub .f64 (fop .sub .f64 y (FloatKind.f64.nearest i)) 4602678819172646912 := by
  unfold sin1 sin0; rw [if_pos h1]
theorem sin_r10 (h1 : fcmp .geq .f64 (fop .sub .f64 y (FloatKind.f64.nearest i)) 4602678819172646912 = false) : sin1 y i = fop .sub .f64 y (FloatKind.f64.nearest i) := by
  unfold sin1 sin0; rw [if_neg (by rw [h1]; decide)]
theorem sin_r2 {z : Nat} (h : sin1 y i = z) {b : Bool} (h2 : fcmp .gtr .f64 z 4598175219545276416 = b) : sin2 y i = if b = true then fop .sub .f64 4602678819172646912 z else z := by
  unfold sin2; rw [h, h2]
theorem sin_r3 {b : Bool} (h1 : fcmp .geq .f64 (fop .sub .f64 y (FloatKind.f64.nearest i)) 4602678819172646912 = b) {z : Nat} (h : sin2 y i = z) : sinR y i = if b = true then fneg .f64 (fop .mul .f64 (fop .mul .f64 z 4618760256179416344) (sinP (fop .mul .f64 (fop .mul .f64 z 4618760256179416344) (fop .mul .f64 z 4618760256179416344)) 8)) else fop .mul .f64 (fop .mul .f64 z 4618760256179416344) (sinP (fop .mul .f64 (fop .mul .f64 z 4618760256179416344) (fop .mul .f64 z 4618760256179416344)) 8) := by
  unfold sinR sinZ
  rw [h]
  unfold sin0
  rw [h1]
end
theorem rg_ok1 {k : Nat} (hk : k < 6) : sinOk (fconv .f32 .f64 (fop .add .f32 (fop .quo .f32 (FloatKind.f32.nearest (k : Int)) (FloatKind.f32.nearest 6)) 1048576000)) (rgI k) = true := by
  have := rg_ok ⟨k, hk⟩
  rw [Bool.and_eq_true] at this
  exact this.2
theorem rg_ok2 {k : Nat} (hk : k < 6) : sinOk (fconv .f32 .f64 (fop .quo .f32 (FloatKind.f32.nearest (k : Int)) (FloatKind.f32.nearest 6))) 0 = true := by
  have := rg_ok ⟨k, hk⟩
  rw [Bool.and_eq_true] at this
  exact this.1
theorem rgL_snoc {r z n : Nat} : rgL r z n ++ [rgP r z n] = rgL r z (n + 1) := by simp [rgL, List.range_succ]
theorem rgL_vl {r z n : Nat} : vl (rgL r z n) ++ [.float .f32 (rgP r z n).1, .float .f32 (rgP r z n).2.1, .float .f32 (rgP r z n).2.2] = vl (rgL r z (n + 1)) := by rw [vl_snoc, rgL_snoc]
theorem wrents_nil {t : TypeId} {f : Nat → Option Addr × Nat} : wrents t f [] = [] := rfl
/-- A ring that was drawn. -/
theorem ring_ok {r h c : Nat} (hr : r < 8) (hh : h < 9) (hc : c < 9) : RingOk (rgL (rgR r) (rgH h) 6, true, rgC c) := ⟨r, h, c, hr, hh, hc, rfl⟩
theorem rings_get {ws : List Wr} (h : ∀ w ∈ ws, RingOk w) : ∀ j, j < ws.length → RingOk (ws.getD j zw) := by
  intro j hj
  refine h _ ?_
  rw [List.getD_eq_getElem?_getD, List.getElem?_eq_getElem hj]
  exact List.getElem_mem hj
theorem pt_of {m x y z : Nat} (hm : m = 2 ∨ m = 3) (hx : x < 2 * m + 1) (hy : y < 2 * m + 1) (hz : z < 2 * m + 1) : Pt (FloatKind.f32.nearest ((x : Int) - (m : Int)), FloatKind.f32.nearest ((y : Int) - (m : Int)), FloatKind.f32.nearest ((z : Int) - (m : Int))) := by
  have key : ∀ x : Nat, x < 2 * m + 1 → ∃ i : Nat, i < 7 ∧ (x : Int) - (m : Int) = (i : Int) - 3 := fun x hx => ⟨x + 3 - m, by omega, by omega⟩
  obtain ⟨i, i1, i2⟩ := key x hx
  obtain ⟨j, j1, j2⟩ := key y hy
  obtain ⟨k, k1, k2⟩ := key z hz
  refine ⟨i, j, 4 * ((k : Int) - 3), i1, j1, by omega, ?_, ?_, ?_⟩
  · show qv (FloatKind.f32.nearest ((x : Int) - (m : Int))) _
    rw [i2]; exact vb_qv (rg_i ⟨i, i1⟩)
  · show qv (FloatKind.f32.nearest ((y : Int) - (m : Int))) _
    rw [j2]; exact vb_qv (rg_i ⟨j, j1⟩)
  · show qv (FloatKind.f32.nearest ((z : Int) - (m : Int))) _
    rw [k2]
    have := vb_qv (rg_i ⟨k, k1⟩)
    rwa [show ((k : Int) - 3) * 33554432 = 4 * ((k : Int) - 3) * 8388608 by omega] at this
theorem pt_half : Pt (0, 0, 1056964608) := by
  refine ⟨3, 3, 2, by decide, by decide, by decide, ?_, ?_, vb_qv rg_5⟩
  · show qv 0 (((0 : Int) : Rat) * c25)
    have e : (((0 : Int) : Rat) * c25) = 0 := by rw [show ((0 : Int) : Rat) = 0 from rfl, Rat.zero_mul]
    rw [e]; exact qv_zero
  · show qv 0 (((0 : Int) : Rat) * c25)
    have e : (((0 : Int) : Rat) * c25) = 0 := by rw [show ((0 : Int) : Rat) = 0 from rfl, Rat.zero_mul]
    rw [e]; exact qv_zero
end Go.Proofs.Ytnclpojljgpadaa

