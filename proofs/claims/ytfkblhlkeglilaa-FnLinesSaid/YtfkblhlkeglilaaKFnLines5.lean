/- Own texts of this claim, merged: Dy, Err, ErrB, ErrC, Ne, Ng, Cx, Cy, Tk, Qv, Qw, Qx, Sv, Sr, Sg, Ha, Me, Mf, Mg, Ma, Mb, Mh, Mi, Mj. -/

import Derived.Test.YtfkblhlkeglilaaKFnLines4
namespace Go.Proofs.Ytfkblhlkeglilaa
open Go.RowKit
/-- how many units 1/128 has -/
def dyU : FloatKind → Nat
  | .f32 => 142
  | .f64 => 1067
/-- The places behind the point. -/
def dyF : FloatKind → Nat
  | .f32 => 23
  | .f64 => 52
theorem binade_is (k : FloatKind) : k.format.binade = 2 ^ dyF k := by cases k <;> decide
theorem dyF_le (k : FloatKind) : 23 ≤ dyF k ∧ dyF k ≤ dyU k := by cases k <;> decide
theorem infRung_is (k : FloatKind) : k.format.infRung = (if k = .f32 then 255 else 2047) * 2 ^ dyF k := by cases k <;> decide
/-- n/128 is a number of the format. -/
theorem dy_rep (k : FloatKind) {n : Nat} (h : n < 2 ^ 24) : ∃ r, r < k.format.infRung ∧ units k.format r = n * 2 ^ dyU k := by
  by_cases h0 : n = 0
  · subst h0
    exact ⟨0, by cases k <;> decide, by rw [(units_zero k.format).2 rfl, Nat.zero_mul]⟩
  · have hl : n.log2 ≤ 23 := by
      have := (Nat.log2_lt h0).2 h
      omega
    obtain ⟨f1, f2⟩ := dyF_le k
    have hb := binade_is k
    generalize hF : dyF k = F at *
    generalize hU : dyU k = U at *
    have h1 := Nat.log2_self_le h0
    have h2 : n < 2 ^ (n.log2 + 1) := Nat.lt_log2_self
    -- the number, shifted to the format's places
    have m1 : 2 ^ F ≤ n * 2 ^ (F - n.log2) := by
      calc 2 ^ F = 2 ^ n.log2 * 2 ^ (F - n.log2) := by rw [← Nat.pow_add]; congr 1; omega
        _ ≤ n * 2 ^ (F - n.log2) := Nat.mul_le_mul_right _ h1
    have m2 : n * 2 ^ (F - n.log2) < 2 ^ F * 2 := by
      calc n * 2 ^ (F - n.log2) < 2 ^ (n.log2 + 1) * 2 ^ (F - n.log2) := Nat.mul_lt_mul_of_pos_right h2 (pow_pos' _)
        _ = 2 ^ F * 2 := by rw [← Nat.pow_add, ← Nat.pow_succ]; congr 1; omega
    generalize hm : n * 2 ^ (F - n.log2) = m at *
    have hp := pow_pos' F
    refine ⟨(U - F + n.log2 + 1) * 2 ^ F + (m - 2 ^ F), ?_, ?_⟩
    · rw [infRung_is, hF]
      have hc : U - F + n.log2 + 2 ≤ (if k = .f32 then 255 else 2047) := by
        cases k
        · simp [dyU, dyF] at hU hF; subst hU; subst hF; simp; omega
        · simp [dyU, dyF] at hU hF; subst hU; subst hF; simp; omega
      have := Nat.mul_le_mul_right (2 ^ F) hc
      have e : (U - F + n.log2 + 2) * 2 ^ F = (U - F + n.log2 + 1) * 2 ^ F + 2 ^ F := by rw [← Nat.succ_mul]
      omega
    · have hr : (U - F + n.log2 + 1) * 2 ^ F ≥ 2 ^ F := Nat.le_mul_of_pos_left _ (by omega)
      unfold units
      rw [hb, if_neg (by omega)]
      have e1 : ((U - F + n.log2 + 1) * 2 ^ F + (m - 2 ^ F)) % 2 ^ F = m - 2 ^ F := by
        rw [Nat.add_comm, Nat.add_mul_mod_self_right, Nat.mod_eq_of_lt (by omega)]
      have e2 : ((U - F + n.log2 + 1) * 2 ^ F + (m - 2 ^ F)) / 2 ^ F = U - F + n.log2 + 1 := by
        rw [Nat.add_comm, Nat.add_mul_div_right _ _ hp, Nat.div_eq_of_lt (by omega), Nat.zero_add]
      rw [e1, e2, show 2 ^ F + (m - 2 ^ F) = m by omega, ← hm, Nat.mul_assoc, ← Nat.pow_add]
      congr 2
      omega
/-- The word x is v/128. -/
def dy (k : FloatKind) (x : Nat) (v : Int) : Prop := x < 2 ^ k.format.width ∧ rng k.format x < k.format.infRung ∧ sval k.format x = v * 2 ^ dyU k
section
variable {k : FloatKind} {x y : Nat} {a b c : Int}
theorem dy_word (s : Bool) {n : Nat} (h : n < 2 ^ 24) {v : Int} (hv : v = if s then -(n : Int) else (n : Int)) : ∃ r, r < k.format.infRung ∧ units k.format r = n * 2 ^ dyU k ∧ dy k (k.format.word s r) v := by
  obtain ⟨r, h1, h2⟩ := dy_rep k h
  obtain ⟨w1, w2⟩ := rng_word k s (Nat.le_of_lt h1)
  refine ⟨r, h1, h2, ?_, by rw [w1]; exact h1, ?_⟩
  · have hw : k.format.infRung < k.format.signWeight := by cases k <;> decide
    rw [width_pos]
    unfold Ieee.Format.word
    split <;> omega
  · unfold sval
    rw [w2, w1, h2, hv]
    cases s <;> simp [Int.neg_mul]
/-- a sum, in units -/
theorem sum_units (hx : rng k.format x < k.format.infRung) (hy : rng k.format y < k.format.infRung) (t : Bool) : ∃ (s : Bool) (M q : Nat), ((k.format.read x).sum (if t then (k.format.read y).opposite else k.format.read y)) = some (.number s M (k.format.leastPlace + (q : Int))) ∧
    M * 2 ^ q = (sval k.format x + (if t then -sval k.format y else sval k.format y)).natAbs ∧ (s = true → sval k.format x + (if t then -sval k.format y else sval k.format y) ≤ 0) ∧ (s = false → 0 ≤ sval k.format x + (if t then -sval k.format y else sval k.format y)) := by
  obtain ⟨m, e, h1, h2⟩ := read_number k.format hx
  obtain ⟨n, d, h3, h4⟩ := read_number k.format hy
  have hs : ∀ t : Bool, (if t then (k.format.read y).opposite else k.format.read y) = .number (sgn k.format y ^^ t) n (k.format.leastPlace + (d : Nat)) := by
    intro t; rw [h3]; cases t <;> simp [Ieee.Datum.opposite]
  rw [hs, h1]
  simp only [Ieee.Datum.sum, signed_val]
  generalize hc : min e d = q
  have hmin : min (k.format.leastPlace + (e : Int)) (k.format.leastPlace + (d : Int)) = k.format.leastPlace + (q : Int) := by omega
  rw [hmin]
  have e1 : (k.format.leastPlace + (e : Int) - (k.format.leastPlace + (q : Int))).toNat = e - q := by omega
  have e2 : (k.format.leastPlace + (d : Int) - (k.format.leastPlace + (q : Int))).toNat = d - q := by omega
  rw [e1, e2]
  have g1 : m * 2 ^ (e - q) * 2 ^ q = units k.format (rng k.format x) := by rw [← h2, Nat.mul_assoc, ← Nat.pow_add]; congr 2; omega
  have g2 : n * 2 ^ (d - q) * 2 ^ q = units k.format (rng k.format y) := by rw [← h4, Nat.mul_assoc, ← Nat.pow_add]; congr 2; omega
  have hv : sval k.format x + (if t then -sval k.format y else sval k.format y) = ((if sgn k.format x = true then -((m * 2 ^ (e - q) : Nat) : Int) else ((m * 2 ^ (e - q) : Nat) : Int)) + (if (sgn k.format y ^^ t) = true then -((n * 2 ^ (d - q) : Nat) : Int) else ((n * 2 ^ (d - q) : Nat) : Int))) * ((2 ^ q : Nat) : Int) := by
    unfold sval
    rw [← g1, ← g2]
    generalize m * 2 ^ (e - q) = A
    generalize n * 2 ^ (d - q) = B
    generalize 2 ^ q = C
    rw [Int.add_mul]
    cases sgn k.format x <;> cases sgn k.format y <;> cases t <;> simp [Int.neg_mul]
  rw [hv]
  generalize (if sgn k.format x = true then -((m * 2 ^ (e - q) : Nat) : Int) else ((m * 2 ^ (e - q) : Nat) : Int)) + (if (sgn k.format y ^^ t) = true then -((n * 2 ^ (d - q) : Nat) : Int) else ((n * 2 ^ (d - q) : Nat) : Int)) = T
  have hp : (0 : Int) < ((2 ^ q : Nat) : Int) := by exact_mod_cast pow_pos' q
  refine ⟨_, _, q, rfl, by rw [Int.natAbs_mul]; rfl, fun h => ?_, fun h => ?_⟩
  · have : T ≤ 0 := by
      split at h
      · omega
      · have := of_decide_eq_true h; omega
    exact Int.mul_nonpos_of_nonpos_of_nonneg this (Int.le_of_lt hp)
  · have : 0 ≤ T := by
      split at h
      · omega
      · have := of_decide_eq_false h; omega
    exact Int.mul_nonneg this (Int.le_of_lt hp)
theorem dy_write {s : Bool} {M q : Nat} {X v : Int} (hM : M * 2 ^ q = X.natAbs) (hX : X = v * 2 ^ dyU k) (h1 : s = true → X ≤ 0) (h2 : s = false → 0 ≤ X) (hv : v.natAbs < 2 ^ 24) : dy k (k.format.write (.number s M (k.format.leastPlace + (q : Int)))) v := by
  have hp : (0 : Int) < 2 ^ dyU k := Int.pow_pos (by decide)
  have hsv : v = if s then -(v.natAbs : Int) else (v.natAbs : Int) := by
    cases s
    · have : 0 ≤ v := by
        have := h2 rfl
        rw [hX] at this
        exact Int.le_of_mul_le_mul_right (by rw [Int.zero_mul]; exact this) hp
      simp; omega
    · have : v ≤ 0 := by
        have := h1 rfl
        rw [hX] at this
        exact Int.le_of_mul_le_mul_right (by rw [Int.zero_mul]; exact this) hp
      simp; omega
  obtain ⟨r, g1, g2, g3⟩ := dy_word (k := k) s hv hsv
  have hw : k.format.write (.number s M (k.format.leastPlace + (q : Int))) = k.format.word s r := by
    show k.format.nearest s M _ = _
    refine nearest_units k.format s (a := 0) (b := q) (Nat.le_of_lt g1) (by omega) ?_
    rw [hM, hX, g2, Int.natAbs_mul, Int.natAbs_pow, Nat.pow_zero, Nat.mul_one]; rfl
  rw [hw]; exact g3
theorem dy_add (hx : dy k x a) (hy : dy k y b) (h : (a + b).natAbs < 2 ^ 24) : dy k (fop .add k x y) (a + b) := by
  obtain ⟨s, M, q, e1, e2, e3, e4⟩ := sum_units hx.2.1 hy.2.1 false
  unfold fop floatBits Ieee.Format.add
  simp only [Bool.false_eq_true, if_false] at e1 e2 e3 e4
  simp only [e1, Option.map_some, Option.getD_some]
  exact dy_write e2 (by rw [hx.2.2, hy.2.2, Int.add_mul]) e3 e4 h
end
end Go.Proofs.Ytfkblhlkeglilaa

namespace Go.Proofs.Ytfkblhlkeglilaa
open Go.RowKit
theorem cut_even_ge (s : Bool) {n d q : Nat} (h : q * 2 ^ d ≤ n) : q ≤ Ieee.Toward.even.cut s n d := by
  unfold Ieee.Toward.cut
  simp only [Nat.shiftLeft_eq, Nat.one_mul]
  by_cases hd : d ≤ n.log2 + 2
  · rw [Nat.min_eq_left hd]
    have hlow : q ≤ n / 2 ^ d := (Nat.le_div_iff_mul_le (pow_pos' d)).2 h
    omega
  · have hlt : n < 2 ^ d := Nat.lt_of_lt_of_le (lt_log2 n) (Nat.pow_le_pow_right (by decide) (by omega))
    have : q = 0 := by
      rcases Nat.eq_zero_or_pos q with h0 | h0
      · exact h0
      · have := Nat.mul_le_mul_right (2 ^ d) h0
        rw [Nat.one_mul] at this
        omega
    rw [this]; exact Nat.zero_le _
/-- What is not less than the number of a word is written as no lesser word. -/
theorem nearest_ge (f : Ieee.Format) (s : Bool) {m r a b : Nat} {e : Int} (hr : r ≤ f.infRung) (he : e + a = f.leastPlace + b) (h : units f r * 2 ^ a ≤ m * 2 ^ b) : ∃ r', f.nearest s m e = f.word s r' ∧ r ≤ r' ∧ r' ≤ f.infRung := by
  unfold Ieee.Format.nearest
  have hb : 0 < f.binade := pow_pos' _
  have hbe : f.binade = 2 ^ f.fractionBits := rfl
  by_cases hm : m = 0
  · rw [if_pos hm]
    refine ⟨0, rfl, ?_, Nat.zero_le _⟩
    rw [hm, Nat.zero_mul] at h
    have hu : units f r = 0 := by
      have := Nat.le_of_lt_succ (Nat.lt_succ_of_le h)
      rcases Nat.eq_zero_or_pos (units f r) with h0 | h0
      · exact h0
      · have := Nat.mul_pos h0 (pow_pos' a); omega
    have := (units_zero f).1 hu
    omega
  rw [if_neg hm]
  refine ⟨_, rfl, Nat.le_min.2 ⟨?_, hr⟩, Nat.min_le_right _ _⟩
  obtain ⟨t, ht⟩ : ∃ t : Nat, max (e + (m.log2 : Int) - (f.fractionBits : Int)) f.leastPlace = f.leastPlace + (t : Int) :=
    ⟨(max (e + (m.log2 : Int) - (f.fractionBits : Int)) f.leastPlace - f.leastPlace).toNat, by omega⟩
  simp only [ht]
  have e1 : (f.leastPlace + (t : Int) - f.leastPlace).toNat = t := by omega
  rw [e1]
  have key : ∀ q : Nat, q * 2 ^ t * 2 ^ a ≤ m * 2 ^ b → q ≤ Ieee.Toward.even.cut s (m <<< (e - (f.leastPlace + t)).toNat) ((f.leastPlace + t) - e).toNat := by
    intro q hqt
    rw [Nat.mul_assoc, ← Nat.pow_add] at hqt
    rcases Nat.le_total (t + a) b with hle | hle
    · have g1 : (e - (f.leastPlace + t)).toNat = b - (t + a) := by omega
      have g2 : ((f.leastPlace + t) - e).toNat = 0 := by omega
      rw [g1, g2, cut_zero, shl_eq]
      have h9 : q * 2 ^ (t + a) ≤ m * 2 ^ (b - (t + a)) * 2 ^ (t + a) := by
        rw [Nat.mul_assoc m, ← Nat.pow_add, show b - (t + a) + (t + a) = b by omega]; exact hqt
      exact Nat.le_of_mul_le_mul_right h9 (pow_pos' _)
    · have g1 : (e - (f.leastPlace + t)).toNat = 0 := by omega
      have g2 : ((f.leastPlace + t) - e).toNat = t + a - b := by omega
      have : t + a = (t + a - b) + b := by omega
      rw [this, Nat.pow_add, ← Nat.mul_assoc] at hqt
      have hm' := Nat.le_of_mul_le_mul_right hqt (pow_pos' b)
      rw [g1, g2, shl_eq, Nat.pow_zero, Nat.mul_one]
      exact cut_even_ge s hm'
  have hfull : 1 ≤ t → f.binade ≤ Ieee.Toward.even.cut s (m <<< (e - (f.leastPlace + t)).toNat) ((f.leastPlace + t) - e).toNat := by
    intro h1
    refine key _ ?_
    have h2 := Nat.log2_self_le hm
    have h3 : f.fractionBits + t + a = b + m.log2 := by omega
    rw [hbe, ← Nat.pow_add, ← Nat.pow_add, h3, Nat.pow_add, Nat.mul_comm]
    exact Nat.mul_le_mul_right _ h2
  by_cases hrb : r < f.binade
  · have hur : units f r = r := by unfold units; rw [if_pos hrb]
    rcases Nat.eq_zero_or_pos t with h0 | h0
    · subst h0
      have := key r (by rw [Nat.pow_zero, Nat.mul_one, ← hur]; exact h)
      omega
    · have := hfull h0
      omega
  · have hq1 : 1 ≤ r / f.binade := (Nat.le_div_iff_mul_le hb).2 (by omega)
    have hmod := Nat.mod_lt r hb
    have hur : units f r = (f.binade + r % f.binade) * 2 ^ (r / f.binade - 1) := by unfold units; rw [if_neg hrb]
    have hqne : f.binade + r % f.binade ≠ 0 := by omega
    have hlg : (units f r).log2 = f.fractionBits + (r / f.binade - 1) := by
      rw [hur, log2_mul_pow hqne]
      congr 1
      rw [Nat.log2_eq_iff hqne]
      rw [Nat.pow_succ, ← hbe]
      omega
    have hu : units f r ≠ 0 := by rw [hur]; exact Nat.mul_ne_zero hqne (Nat.ne_of_gt (pow_pos' _))
    have hl : (units f r).log2 + a ≤ m.log2 + b := by
      have := log2_mono h
      rwa [log2_mul_pow hm b, log2_mul_pow hu a] at this
    have hT : r / f.binade - 1 ≤ t := by omega
    have e2 := Nat.div_add_mod r f.binade
    rw [Nat.mul_comm] at e2
    rcases Nat.lt_or_eq_of_le hT with hlt | heq
    · have h4 := hfull (by omega)
      have h5 : (r / f.binade) * f.binade ≤ t * f.binade := Nat.mul_le_mul_right _ (by omega)
      omega
    · have hk := key (f.binade + r % f.binade) (by rw [← heq, ← hur]; exact h)
      have h5 : (t + 1) * f.binade = r / f.binade * f.binade := by congr 1; omega
      rw [Nat.add_mul, Nat.one_mul] at h5
      omega
/-- n steps of a grid are a number of single precision. -/
theorem er_rep {n c : Nat} (h : n ≤ 2 ^ 24) (hc : c ≤ 200) : ∃ r, r < FloatKind.f32.format.infRung ∧ units FloatKind.f32.format r = n * 2 ^ c := by
  have hb : FloatKind.f32.format.binade = 2 ^ 23 := by decide
  have hi : FloatKind.f32.format.infRung = 255 * 2 ^ 23 := by decide
  by_cases h0 : n < 2 ^ 24
  · by_cases h1 : n = 0
    · subst h1
      exact ⟨0, by decide, by rw [(units_zero _).2 rfl, Nat.zero_mul]⟩
    have hl : n.log2 ≤ 23 := by have := (Nat.log2_lt h1).2 h0; omega
    have g1 := Nat.log2_self_le h1
    have g2 : n < 2 ^ (n.log2 + 1) := Nat.lt_log2_self
    -- shift left until 24 bits are there, or until the grid is the least one
    obtain ⟨d, hd, hdc⟩ : ∃ d, d ≤ c ∧ (d = c ∧ n * 2 ^ d < 2 ^ 24 ∨ 2 ^ 23 ≤ n * 2 ^ d ∧ n * 2 ^ d < 2 ^ 24) := by
      by_cases hcl : c ≤ 23 - n.log2
      · refine ⟨c, Nat.le_refl _, .inl ⟨rfl, ?_⟩⟩
        calc n * 2 ^ c < 2 ^ (n.log2 + 1) * 2 ^ c := Nat.mul_lt_mul_of_pos_right g2 (pow_pos' _)
          _ = 2 ^ (n.log2 + 1 + c) := by rw [← Nat.pow_add]
          _ ≤ 2 ^ 24 := Nat.pow_le_pow_right (by decide) (by omega)
      · refine ⟨23 - n.log2, by omega, .inr ⟨?_, ?_⟩⟩
        · calc 2 ^ 23 = 2 ^ n.log2 * 2 ^ (23 - n.log2) := by rw [← Nat.pow_add]; congr 1; omega
            _ ≤ _ := Nat.mul_le_mul_right _ g1
        · calc n * 2 ^ (23 - n.log2) < 2 ^ (n.log2 + 1) * 2 ^ (23 - n.log2) := Nat.mul_lt_mul_of_pos_right g2 (pow_pos' _)
            _ = 2 ^ 24 := by rw [← Nat.pow_add]; congr 1; omega
    have hmul : n * 2 ^ c = n * 2 ^ d * 2 ^ (c - d) := by rw [Nat.mul_assoc, ← Nat.pow_add]; congr 2; omega
    rw [hmul]
    generalize n * 2 ^ d = m at hdc
    by_cases hm : m < 2 ^ 23
    · have hd2 : d = c := by rcases hdc with h2 | h2 <;> omega
      refine ⟨m, by rw [hi]; omega, ?_⟩
      unfold units
      rw [hb, if_pos hm, hd2, Nat.sub_self, Nat.pow_zero, Nat.mul_one]
    · have hm2 : m < 2 ^ 24 := by rcases hdc with h2 | h2 <;> omega
      refine ⟨(c - d + 1) * 2 ^ 23 + (m - 2 ^ 23), by rw [hi]; omega, ?_⟩
      unfold units
      rw [hb, if_neg (by omega)]
      have e1 : ((c - d + 1) * 2 ^ 23 + (m - 2 ^ 23)) % 2 ^ 23 = m - 2 ^ 23 := by
        rw [Nat.add_comm, Nat.add_mul_mod_self_right, Nat.mod_eq_of_lt (by omega)]
      have e2 : ((c - d + 1) * 2 ^ 23 + (m - 2 ^ 23)) / 2 ^ 23 = c - d + 1 := by
        rw [Nat.add_comm, Nat.add_mul_div_right _ _ (by decide), Nat.div_eq_of_lt (by omega), Nat.zero_add]
      rw [e1, e2, show 2 ^ 23 + (m - 2 ^ 23) = m by omega, Nat.add_sub_cancel]
  · obtain rfl : n = 2 ^ 24 := by omega
    refine ⟨(c + 2) * 2 ^ 23, by rw [hi]; omega, ?_⟩
    unfold units
    rw [hb, if_neg (by omega), Nat.mul_mod_left, Nat.mul_div_cancel _ (by decide), Nat.add_zero, show c + 2 - 1 = 1 + c by omega, Nat.pow_add, ← Nat.mul_assoc]
/-- Written: not farther than a step of the grid. -/
theorem er_core (s : Bool) {m a b c : Nat} {e : Int} (hc : c ≤ 200) (he : e + a = FloatKind.f32.format.leastPlace + b) (h : m * 2 ^ b ≤ 2 ^ 24 * 2 ^ c * 2 ^ a) :
    ∃ r, FloatKind.f32.format.nearest s m e = FloatKind.f32.format.word s r ∧ r < FloatKind.f32.format.infRung ∧ units FloatKind.f32.format r * 2 ^ a ≤ m * 2 ^ b + 2 ^ c * 2 ^ a ∧ m * 2 ^ b ≤ units FloatKind.f32.format r * 2 ^ a + 2 ^ c * 2 ^ a := by
  have hp : 0 < 2 ^ c * 2 ^ a := Nat.mul_pos (pow_pos' _) (pow_pos' _)
  generalize hG : 2 ^ c * 2 ^ a = G at *
  rw [Nat.mul_assoc, hG] at h
  generalize hN : m * 2 ^ b = N at *
  have hn1 : N / G ≤ 2 ^ 24 := Nat.div_le_of_le_mul (by rw [Nat.mul_comm]; exact h)
  have hdm := Nat.div_add_mod N G
  have hml := Nat.mod_lt N hp
  obtain ⟨r1, a1, a2⟩ := er_rep hn1 hc
  obtain ⟨t1, b1, b2, b3⟩ := nearest_ge FloatKind.f32.format s (m := m) (r := r1) (a := a) (b := b) (Nat.le_of_lt a1) he (by rw [a2, Nat.mul_assoc, hG, hN, Nat.mul_comm]; omega)
  -- the upper one
  obtain ⟨r2, c1, c2, c3⟩ : ∃ r2, r2 < FloatKind.f32.format.infRung ∧ N ≤ units FloatKind.f32.format r2 * 2 ^ a ∧ units FloatKind.f32.format r2 * 2 ^ a ≤ N + G := by
    by_cases hz : N % G = 0
    · exact ⟨r1, a1, by rw [a2, Nat.mul_assoc, hG, Nat.mul_comm]; omega, by rw [a2, Nat.mul_assoc, hG, Nat.mul_comm]; omega⟩
    · have hn2 : N / G + 1 ≤ 2 ^ 24 := by
        rcases Nat.lt_or_ge (N / G) (2 ^ 24) with h1 | h1
        · exact h1
        · have : G * (2 ^ 24) ≤ G * (N / G) := Nat.mul_le_mul_left _ h1
          rw [Nat.mul_comm] at this
          omega
      obtain ⟨r2, d1, d2⟩ := er_rep hn2 hc
      have e2 : (N / G + 1) * G = G * (N / G) + G := by rw [Nat.add_mul, Nat.one_mul, Nat.mul_comm]
      exact ⟨r2, d1, by rw [d2, Nat.mul_assoc, hG, e2]; omega, by rw [d2, Nat.mul_assoc, hG, e2]; omega⟩
  obtain ⟨t2, d1, d2⟩ := nearest_le FloatKind.f32.format s (m := m) (r := r2) (a := a) (b := b) he (by rw [hN]; exact c2)
  have ht : t1 = t2 := by
    have h1 := rng_word .f32 s (r := t1) b3
    have h2 := rng_word .f32 s (r := t2) (by omega)
    rw [← h1.1, ← h2.1, ← b1, ← d1]
  subst ht
  have m1 := Nat.mul_le_mul_right (2 ^ a) (units_mono FloatKind.f32.format b2)
  have m2 := Nat.mul_le_mul_right (2 ^ a) (units_mono FloatKind.f32.format d2)
  rw [a2, Nat.mul_assoc, hG, Nat.mul_comm] at m1
  exact ⟨t1, b1, by omega, by omega, by omega⟩
end Go.Proofs.Ytfkblhlkeglilaa

namespace Go.Proofs.Ytfkblhlkeglilaa
open Go.RowKit
/-- A step: 2^-24 in units of the least place. One is 2^24 steps. -/
def UU : Int := ((2 ^ 125 : Nat) : Int)
theorem UU_pos : 0 < UU := by unfold UU; exact_mod_cast pow_pos' 125
theorem UU_big {k : Nat} {K : Int} (hK : ((2 ^ k : Nat) : Int) = K) : K * (16777216 * UU) = ((2 ^ 24 * 2 ^ (125 + k) : Nat) : Int) ∧ K * UU = ((2 ^ (125 + k) : Nat) : Int) := by
  have e : 2 ^ k * 2 ^ 125 = 2 ^ (125 + k) := by rw [← Nat.pow_add, Nat.add_comm]
  have e2 : K * UU = ((2 ^ (125 + k) : Nat) : Int) := by rw [← hK, UU, ← Int.natCast_mul, e]
  refine ⟨?_, e2⟩
  rw [Int.mul_left_comm, e2, Int.natCast_mul]
  congr 1
theorem BB_is : (16777216 : Int) * UU = ((2 ^ 149 : Nat) : Int) := by
  have := (UU_big (k := 24) (K := 16777216) (by decide)).2
  rw [this]
/-- The word x is X units. -/
def apx (x : Nat) (X : Int) : Prop := x < 2 ^ FloatKind.f32.format.width ∧ rng FloatKind.f32.format x < FloatKind.f32.format.infRung ∧ sval FloatKind.f32.format x = X
section
variable {x y : Nat} {X Y : Int}
theorem er_word (s : Bool) {r : Nat} (hr : r < FloatKind.f32.format.infRung) : apx (FloatKind.f32.format.word s r) (if s then -(units FloatKind.f32.format r : Int) else (units FloatKind.f32.format r : Int)) := by
  obtain ⟨w1, w2⟩ := rng_word .f32 s (Nat.le_of_lt hr)
  refine ⟨?_, by rw [w1]; exact hr, ?_⟩
  · have hw : FloatKind.f32.format.infRung < FloatKind.f32.format.signWeight := by decide
    rw [width_pos]
    unfold Ieee.Format.word
    split <;> omega
  · unfold sval
    rw [w2, w1]
theorem apx_dy {v : Int} (h : dy .f32 x v) : apx x (v * 2 ^ dyU .f32) := ⟨h.1, h.2.1, h.2.2⟩
theorem apx.units (h : apx x X) : units FloatKind.f32.format (rng FloatKind.f32.format x) = X.natAbs := by
  have := congrArg Int.natAbs h.2.2
  unfold sval at this
  split at this <;> simpa using this
theorem apx.sgn (h : apx x X) : (sgn FloatKind.f32.format x = true → X ≤ 0) ∧ (sgn FloatKind.f32.format x = false → 0 ≤ X) := by
  have := h.2.2
  unfold sval at this
  constructor <;> intro hs <;> rw [hs] at this <;> simp at this <;> omega
theorem er_sign {s : Bool} {N u c : Nat} {V : Int} (hN : V.natAbs = N) (h1 : s = true → V ≤ 0) (h2 : s = false → 0 ≤ V) (h3 : u ≤ N + c) (h4 : N ≤ u + c) :
    V - (c : Int) ≤ (if s then -(u : Int) else (u : Int)) ∧ (if s then -(u : Int) else (u : Int)) ≤ V + (c : Int) := by
  cases s
  · have := h2 rfl
    simp only [Bool.false_eq_true, if_false]
    omega
  · have := h1 rfl
    simp only [if_true]
    omega
theorem er_sum (t : Bool) (k : Nat) {K : Int} (hK : ((2 ^ k : Nat) : Int) = K) (hk : k ≤ 70) (hx : apx x X) (hy : apx y Y) (h1 : -(K * (16777216 * UU)) ≤ X + (if t then -Y else Y)) (h2 : X + (if t then -Y else Y) ≤ K * (16777216 * UU)) :
    ∃ Z, apx (((((FloatKind.f32.format.read x).sum (if t then (FloatKind.f32.format.read y).opposite else FloatKind.f32.format.read y)).map FloatKind.f32.format.write).getD (qn .f32))) Z ∧ X + (if t then -Y else Y) - K * UU ≤ Z ∧ Z ≤ X + (if t then -Y else Y) + K * UU := by
  obtain ⟨s, M, q, e1, e2, e3, e4⟩ := sum_units hx.2.1 hy.2.1 t
  rw [hx.2.2, hy.2.2] at e2 e3 e4
  generalize X + (if t then -Y else Y) = V at *
  obtain ⟨g1, g2⟩ := UU_big hK
  rw [g1] at h1 h2
  rw [g2]
  have hn : M * 2 ^ q ≤ 2 ^ 24 * 2 ^ (125 + k) * 2 ^ 0 := by rw [e2, Nat.pow_zero, Nat.mul_one]; omega
  obtain ⟨r, r1, r2, r3, r4⟩ := er_core s (a := 0) (b := q) (e := FloatKind.f32.format.leastPlace + (q : Int)) (by omega) (by omega) hn
  rw [Nat.pow_zero, Nat.mul_one, Nat.mul_one, e2] at r3 r4
  have hw : (((FloatKind.f32.format.read x).sum (if t then (FloatKind.f32.format.read y).opposite else FloatKind.f32.format.read y)).map FloatKind.f32.format.write).getD (qn .f32) = FloatKind.f32.format.word s r := by
    rw [e1]; exact r1
  rw [hw]
  exact ⟨_, er_word s r2, er_sign rfl e3 e4 r3 r4⟩
theorem er_add (k : Nat) {K : Int} (hK : ((2 ^ k : Nat) : Int) = K) (hk : k ≤ 70) (hx : apx x X) (hy : apx y Y) (h1 : -(K * (16777216 * UU)) ≤ X + Y) (h2 : X + Y ≤ K * (16777216 * UU)) : ∃ Z, apx (fop .add .f32 x y) Z ∧ X + Y - K * UU ≤ Z ∧ Z ≤ X + Y + K * UU :=
  er_sum false k hK hk hx hy h1 h2
theorem sgn_xor (hx : apx x X) (hy : apx y Y) : ((sgn FloatKind.f32.format x ^^ sgn FloatKind.f32.format y) = true → X * Y ≤ 0) ∧ ((sgn FloatKind.f32.format x ^^ sgn FloatKind.f32.format y) = false → 0 ≤ X * Y) := by
  have sa := hx.sgn
  have sb := hy.sgn
  cases hsx : sgn FloatKind.f32.format x <;> cases hsy : sgn FloatKind.f32.format y
  · exact ⟨by simp, fun _ => Int.mul_nonneg (sa.2 hsx) (sb.2 hsy)⟩
  · exact ⟨fun _ => Int.mul_nonpos_of_nonneg_of_nonpos (sa.2 hsx) (sb.1 hsy), by simp⟩
  · exact ⟨fun _ => Int.mul_nonpos_of_nonpos_of_nonneg (sa.1 hsx) (sb.2 hsy), by simp⟩
  · exact ⟨by simp, fun _ => Int.mul_nonneg_of_nonpos_of_nonpos (sa.1 hsx) (sb.1 hsy)⟩
theorem lp32 : FloatKind.f32.format.leastPlace = -149 := by decide
theorem er_mul (k : Nat) {K : Int} (hK : ((2 ^ k : Nat) : Int) = K) (hk : k ≤ 70) (hx : apx x X) (hy : apx y Y) (h1 : -(K * (16777216 * UU) * (16777216 * UU)) ≤ X * Y) (h2 : X * Y ≤ K * (16777216 * UU) * (16777216 * UU)) :
    ∃ Z, apx (fop .mul .f32 x y) Z ∧ X * Y - K * UU * (16777216 * UU) ≤ Z * (16777216 * UU) ∧ Z * (16777216 * UU) ≤ X * Y + K * UU * (16777216 * UU) := by
  obtain ⟨m, e, a1, a2⟩ := read_number FloatKind.f32.format hx.2.1
  obtain ⟨n, d, b1, b2⟩ := read_number FloatKind.f32.format hy.2.1
  rw [hx.units] at a2
  rw [hy.units] at b2
  obtain ⟨g1, g2⟩ := UU_big hK
  have g3 := BB_is
  rw [g1] at h1 h2
  rw [g2]
  rw [g3] at h1 h2 ⊢
  rw [← Int.natCast_mul] at h1 h2
  have hxy : (X * Y).natAbs = m * n * 2 ^ (e + d) := by rw [Int.natAbs_mul, ← a2, ← b2, Nat.pow_add]; simp only [Nat.mul_assoc, Nat.mul_left_comm]
  have hn : m * n * 2 ^ (e + d) ≤ 2 ^ 24 * 2 ^ (125 + k) * 2 ^ 149 := by rw [← hxy]; omega
  obtain ⟨r, r1, r2, r3, r4⟩ := er_core (sgn FloatKind.f32.format x ^^ sgn FloatKind.f32.format y) (a := 149) (b := e + d) (e := FloatKind.f32.format.leastPlace + (e : Int) + (FloatKind.f32.format.leastPlace + (d : Int))) (by omega) (by rw [lp32]; omega) hn
  have hw : fop .mul .f32 x y = FloatKind.f32.format.word (sgn FloatKind.f32.format x ^^ sgn FloatKind.f32.format y) r := by
    unfold fop floatBits Ieee.Format.mul
    simp only [a1, b1, Ieee.Datum.product, Option.map_some, Option.getD_some]
    exact r1
  rw [hw]
  refine ⟨_, er_word _ r2, ?_⟩
  obtain ⟨s1, s2⟩ := sgn_xor hx hy
  have := er_sign (V := X * Y) hxy s1 s2 r3 r4
  have e9 : (if (sgn FloatKind.f32.format x ^^ sgn FloatKind.f32.format y) = true then -(units FloatKind.f32.format r : Int) else (units FloatKind.f32.format r : Int)) * ((2 ^ 149 : Nat) : Int) =
      (if (sgn FloatKind.f32.format x ^^ sgn FloatKind.f32.format y) = true then -((units FloatKind.f32.format r * 2 ^ 149 : Nat) : Int) else ((units FloatKind.f32.format r * 2 ^ 149 : Nat) : Int)) := by
    split <;> simp only [Int.natCast_mul, Int.neg_mul]
  rw [e9, ← Int.natCast_mul]
  exact this
end
end Go.Proofs.Ytfkblhlkeglilaa

namespace Go.Proofs.Ytfkblhlkeglilaa
open Go.RowKit
set_option maxRecDepth 20000
set_option linter.unusedSimpArgs false
theorem quo_sticky {D n : Nat} (hn : 0 < n) : n * (2 * (D / n) + (D % n != 0).toNat) ≤ 2 * D + n ∧ 2 * D ≤ n * (2 * (D / n) + (D % n != 0).toNat) + n := by
  have h1 := Nat.div_add_mod D n
  have h2 := Nat.mod_lt D hn
  rw [Nat.mul_add, Nat.mul_left_comm]
  by_cases h : D % n = 0
  · rw [h]; simp; omega
  · have : (D % n != 0) = true := by simpa using h
    rw [this]
    simp only [Bool.toNat_true, Nat.mul_one]
    omega
end Go.Proofs.Ytfkblhlkeglilaa

namespace Go.Proofs.Ytfkblhlkeglilaa
open Go.RowKit
/-- n steps of a grid are a number of double precision. -/
theorem er_rep64 {n c : Nat} (h : n ≤ 2 ^ 53) (hc : c ≤ 1900) : ∃ r, r < FloatKind.f64.format.infRung ∧ units FloatKind.f64.format r = n * 2 ^ c := by
  have hb : FloatKind.f64.format.binade = 2 ^ 52 := by decide
  have hi : FloatKind.f64.format.infRung = 2047 * 2 ^ 52 := by decide
  by_cases h0 : n < 2 ^ 53
  · by_cases h1 : n = 0
    · subst h1
      exact ⟨0, by decide, by rw [(units_zero _).2 rfl, Nat.zero_mul]⟩
    have hl : n.log2 ≤ 52 := by have := (Nat.log2_lt h1).2 h0; omega
    have g1 := Nat.log2_self_le h1
    have g2 : n < 2 ^ (n.log2 + 1) := Nat.lt_log2_self
    -- shift left until 24 bits are there, or until the grid is the least one
    obtain ⟨d, hd, hdc⟩ : ∃ d, d ≤ c ∧ (d = c ∧ n * 2 ^ d < 2 ^ 53 ∨ 2 ^ 52 ≤ n * 2 ^ d ∧ n * 2 ^ d < 2 ^ 53) := by
      by_cases hcl : c ≤ 52 - n.log2
      · refine ⟨c, Nat.le_refl _, .inl ⟨rfl, ?_⟩⟩
        calc n * 2 ^ c < 2 ^ (n.log2 + 1) * 2 ^ c := Nat.mul_lt_mul_of_pos_right g2 (pow_pos' _)
          _ = 2 ^ (n.log2 + 1 + c) := by rw [← Nat.pow_add]
          _ ≤ 2 ^ 53 := Nat.pow_le_pow_right (by decide) (by omega)
      · refine ⟨52 - n.log2, by omega, .inr ⟨?_, ?_⟩⟩
        · calc 2 ^ 52 = 2 ^ n.log2 * 2 ^ (52 - n.log2) := by rw [← Nat.pow_add]; congr 1; omega
            _ ≤ _ := Nat.mul_le_mul_right _ g1
        · calc n * 2 ^ (52 - n.log2) < 2 ^ (n.log2 + 1) * 2 ^ (52 - n.log2) := Nat.mul_lt_mul_of_pos_right g2 (pow_pos' _)
            _ = 2 ^ 53 := by rw [← Nat.pow_add]; congr 1; omega
    have hmul : n * 2 ^ c = n * 2 ^ d * 2 ^ (c - d) := by rw [Nat.mul_assoc, ← Nat.pow_add]; congr 2; omega
    rw [hmul]
    generalize n * 2 ^ d = m at hdc
    by_cases hm : m < 2 ^ 52
    · have hd2 : d = c := by rcases hdc with h2 | h2 <;> omega
      refine ⟨m, by rw [hi]; omega, ?_⟩
      unfold units
      rw [hb, if_pos hm, hd2, Nat.sub_self, Nat.pow_zero, Nat.mul_one]
    · have hm2 : m < 2 ^ 53 := by rcases hdc with h2 | h2 <;> omega
      refine ⟨(c - d + 1) * 2 ^ 52 + (m - 2 ^ 52), by rw [hi]; omega, ?_⟩
      unfold units
      rw [hb, if_neg (by omega)]
      have e1 : ((c - d + 1) * 2 ^ 52 + (m - 2 ^ 52)) % 2 ^ 52 = m - 2 ^ 52 := by
        rw [Nat.add_comm, Nat.add_mul_mod_self_right, Nat.mod_eq_of_lt (by omega)]
      have e2 : ((c - d + 1) * 2 ^ 52 + (m - 2 ^ 52)) / 2 ^ 52 = c - d + 1 := by
        rw [Nat.add_comm, Nat.add_mul_div_right _ _ (by decide), Nat.div_eq_of_lt (by omega), Nat.zero_add]
      rw [e1, e2, show 2 ^ 52 + (m - 2 ^ 52) = m by omega, Nat.add_sub_cancel]
  · obtain rfl : n = 2 ^ 53 := by omega
    refine ⟨(c + 2) * 2 ^ 52, by rw [hi]; omega, ?_⟩
    unfold units
    rw [hb, if_neg (by omega), Nat.mul_mod_left, Nat.mul_div_cancel _ (by decide), Nat.add_zero, show c + 2 - 1 = 1 + c by omega, Nat.pow_add, ← Nat.mul_assoc]
theorem lp64 : FloatKind.f64.format.leastPlace = -1074 := by decide
/-- Narrowed: not farther than a step of the grid. -/
theorem er_narrow {y : Nat} {V : Int} {c : Nat} (hc : c ≤ 200) (hy : rng FloatKind.f64.format y < FloatKind.f64.format.infRung) (hV : sval FloatKind.f64.format y = V) (h : V.natAbs ≤ 2 ^ 24 * 2 ^ c * 2 ^ 925) :
    fover .f64 .f32 y = false ∧ ∃ Z, apx (fconv .f64 .f32 y) Z ∧ V - ((2 ^ c * 2 ^ 925 : Nat) : Int) ≤ Z * ((2 ^ 925 : Nat) : Int) ∧ Z * ((2 ^ 925 : Nat) : Int) ≤ V + ((2 ^ c * 2 ^ 925 : Nat) : Int) := by
  obtain ⟨m, e, a1, a2⟩ := read_number FloatKind.f64.format hy
  have hu : units FloatKind.f64.format (rng FloatKind.f64.format y) = V.natAbs := by
    have := congrArg Int.natAbs hV
    unfold sval at this
    split at this <;> simpa using this
  have hs : (sgn FloatKind.f64.format y = true → V ≤ 0) ∧ (sgn FloatKind.f64.format y = false → 0 ≤ V) := by
    have := hV
    unfold sval at this
    constructor <;> intro hs <;> rw [hs] at this <;> simp at this <;> omega
  rw [hu] at a2
  obtain ⟨r, r1, r2, r3, r4⟩ := er_core (sgn FloatKind.f64.format y) (m := m) (a := 925) (b := e) (c := c) (e := FloatKind.f64.format.leastPlace + (e : Int)) hc (by rw [lp64, lp32]; omega) (by rw [a2]; exact h)
  rw [a2] at r3 r4
  have hd : FloatKind.f64.decode y = .number (sgn FloatKind.f64.format y) m (FloatKind.f64.format.leastPlace + (e : Int)) := a1
  have he : FloatKind.f32.encode (.number (sgn FloatKind.f64.format y) m (FloatKind.f64.format.leastPlace + (e : Int))) = FloatKind.f32.format.word (sgn FloatKind.f64.format y) r := r1
  have hw := er_word (sgn FloatKind.f64.format y) r2
  refine ⟨?_, (if sgn FloatKind.f64.format y then -(units FloatKind.f32.format r : Int) else (units FloatKind.f32.format r : Int)), ?_, ?_⟩
  · unfold fover
    rw [if_neg (by decide), hd]
    simp only [he]
    obtain ⟨m', e', b1, _⟩ := read_number FloatKind.f32.format hw.2.1
    have b2 : FloatKind.f32.decode (FloatKind.f32.format.word (sgn FloatKind.f64.format y) r) = _ := b1
    rw [b2]; rfl
  · unfold fconv
    rw [if_neg (by decide), hd]
    simp only [he]
    exact hw
  · have := er_sign (V := V) rfl hs.1 hs.2 r3 r4
    have e9 : (if sgn FloatKind.f64.format y = true then -(units FloatKind.f32.format r : Int) else (units FloatKind.f32.format r : Int)) * ((2 ^ 925 : Nat) : Int) =
        (if sgn FloatKind.f64.format y = true then -((units FloatKind.f32.format r * 2 ^ 925 : Nat) : Int) else ((units FloatKind.f32.format r * 2 ^ 925 : Nat) : Int)) := by
      split <;> simp only [Int.natCast_mul, Int.neg_mul]
    rw [e9]
    exact this
theorem pow2_is (n : Nat) : pow2 n = 2 ^ n := rfl
/-- The double word x is V units of the least place of doubles. -/
def apd (x : Nat) (V : Int) : Prop := rng FloatKind.f64.format x < FloatKind.f64.format.infRung ∧ sval FloatKind.f64.format x = V
theorem apd_up {x : Nat} {X : Int} (h : apx x X) : apd (up x) (X * ((2 ^ 925 : Nat) : Int)) := by
  obtain ⟨u1, u2, u3⟩ := up_number (x := x) h.2.1
  refine ⟨u2, ?_⟩
  have hk : upK = 2 ^ 925 := (show upK = pow2 925 from rfl).trans (pow2_is 925)
  have e : sval FloatKind.f64.format (up x) = if sgn FloatKind.f32.format x then -((units FloatKind.f32.format (rng FloatKind.f32.format x) * upK : Nat) : Int) else ((units FloatKind.f32.format (rng FloatKind.f32.format x) * upK : Nat) : Int) := by
    show sval Ieee.double (up x) = _
    unfold sval
    rw [u1, u3]; rfl
  rw [e, ← h.2.2, hk]
  unfold sval
  split <;> simp only [Int.natCast_mul, Int.neg_mul]
theorem apd_word (s : Bool) {r : Nat} (hr : r < FloatKind.f64.format.infRung) : apd (FloatKind.f64.format.word s r) (if s then -(units FloatKind.f64.format r : Int) else (units FloatKind.f64.format r : Int)) := by
  obtain ⟨w1, w2⟩ := rng_word .f64 s (Nat.le_of_lt hr)
  refine ⟨by rw [w1]; exact hr, ?_⟩
  unfold sval
  rw [w2, w1]
theorem apd.units {x : Nat} {V : Int} (h : apd x V) : units FloatKind.f64.format (rng FloatKind.f64.format x) = V.natAbs := by
  have := congrArg Int.natAbs h.2
  unfold sval at this
  split at this <;> simpa using this
def D9 : Nat := 2 ^ 925
theorem D9_is : 2 ^ 925 = D9 := by unfold D9; exact Eq.refl _
theorem er_narrowD {y : Nat} {V : Int} {c : Nat} (hc : c ≤ 200) (hy : apd y V) (h : V.natAbs ≤ 2 ^ 24 * 2 ^ c * D9) :
    fover .f64 .f32 y = false ∧ ∃ Z, apx (fconv .f64 .f32 y) Z ∧ V - ((2 ^ c : Nat) : Int) * (D9 : Int) ≤ Z * (D9 : Int) ∧ Z * (D9 : Int) ≤ V + ((2 ^ c : Nat) : Int) * (D9 : Int) := by
  have h9 := er_narrow (y := y) (V := V) (c := c) hc hy.1 hy.2
  rw [D9_is] at h9
  simp only [Int.natCast_mul] at h9
  exact h9 h
def D7 : Nat := 2 ^ 776
theorem pow_split {p q r : Nat} (h : p = q + r) : (2 : Nat) ^ p = 2 ^ q * 2 ^ r := by rw [h, Nat.pow_add]
end Go.Proofs.Ytfkblhlkeglilaa

namespace Go.Proofs.Ytfkblhlkeglilaa
open Go.RowKit
set_option maxRecDepth 20000
set_option linter.unusedSimpArgs false
/-- Written: not farther than a step of the grid. -/
theorem er_core64 (s : Bool) {m a b c : Nat} {e : Int} (hc : c ≤ 1900) (he : e + a = FloatKind.f64.format.leastPlace + b) (h : m * 2 ^ b ≤ 2 ^ 53 * 2 ^ c * 2 ^ a) :
    ∃ r, FloatKind.f64.format.nearest s m e = FloatKind.f64.format.word s r ∧ r < FloatKind.f64.format.infRung ∧ units FloatKind.f64.format r * 2 ^ a ≤ m * 2 ^ b + 2 ^ c * 2 ^ a ∧ m * 2 ^ b ≤ units FloatKind.f64.format r * 2 ^ a + 2 ^ c * 2 ^ a := by
  have hp : 0 < 2 ^ c * 2 ^ a := Nat.mul_pos (pow_pos' _) (pow_pos' _)
  generalize hG : 2 ^ c * 2 ^ a = G at *
  rw [Nat.mul_assoc, hG] at h
  generalize hN : m * 2 ^ b = N at *
  have hn1 : N / G ≤ 2 ^ 53 := Nat.div_le_of_le_mul (by rw [Nat.mul_comm]; exact h)
  have hdm := Nat.div_add_mod N G
  have hml := Nat.mod_lt N hp
  obtain ⟨r1, a1, a2⟩ := er_rep64 hn1 hc
  obtain ⟨t1, b1, b2, b3⟩ := nearest_ge FloatKind.f64.format s (m := m) (r := r1) (a := a) (b := b) (Nat.le_of_lt a1) he (by rw [a2, Nat.mul_assoc, hG, hN, Nat.mul_comm]; omega)
  -- the upper one
  obtain ⟨r2, c1, c2, c3⟩ : ∃ r2, r2 < FloatKind.f64.format.infRung ∧ N ≤ units FloatKind.f64.format r2 * 2 ^ a ∧ units FloatKind.f64.format r2 * 2 ^ a ≤ N + G := by
    by_cases hz : N % G = 0
    · exact ⟨r1, a1, by rw [a2, Nat.mul_assoc, hG, Nat.mul_comm]; omega, by rw [a2, Nat.mul_assoc, hG, Nat.mul_comm]; omega⟩
    · have hn2 : N / G + 1 ≤ 2 ^ 53 := by
        rcases Nat.lt_or_ge (N / G) (2 ^ 53) with h1 | h1
        · exact h1
        · have : G * (2 ^ 53) ≤ G * (N / G) := Nat.mul_le_mul_left _ h1
          rw [Nat.mul_comm] at this
          omega
      obtain ⟨r2, d1, d2⟩ := er_rep64 hn2 hc
      have e2 : (N / G + 1) * G = G * (N / G) + G := by rw [Nat.add_mul, Nat.one_mul, Nat.mul_comm]
      exact ⟨r2, d1, by rw [d2, Nat.mul_assoc, hG, e2]; omega, by rw [d2, Nat.mul_assoc, hG, e2]; omega⟩
  obtain ⟨t2, d1, d2⟩ := nearest_le FloatKind.f64.format s (m := m) (r := r2) (a := a) (b := b) he (by rw [hN]; exact c2)
  have ht : t1 = t2 := by
    have h1 := rng_word .f64 s (r := t1) b3
    have h2 := rng_word .f64 s (r := t2) (by omega)
    rw [← h1.1, ← h2.1, ← b1, ← d1]
  subst ht
  have m1 := Nat.mul_le_mul_right (2 ^ a) (units_mono FloatKind.f64.format b2)
  have m2 := Nat.mul_le_mul_right (2 ^ a) (units_mono FloatKind.f64.format d2)
  rw [a2, Nat.mul_assoc, hG, Nat.mul_comm] at m1
  exact ⟨t1, b1, by omega, by omega, by omega⟩
theorem apd.sgn {x : Nat} {X : Int} (h : apd x X) : (sgn FloatKind.f64.format x = true → X ≤ 0) ∧ (sgn FloatKind.f64.format x = false → 0 ≤ X) := by
  have := h.2
  unfold sval at this
  constructor <;> intro hs <;> rw [hs] at this <;> simp at this <;> omega
theorem sgn_xorD {x y : Nat} {X Y : Int} (hx : apd x X) (hy : apd y Y) : ((sgn FloatKind.f64.format x ^^ sgn FloatKind.f64.format y) = true → X * Y ≤ 0) ∧ ((sgn FloatKind.f64.format x ^^ sgn FloatKind.f64.format y) = false → 0 ≤ X * Y) := by
  have sa := hx.sgn
  have sb := hy.sgn
  cases hsx : sgn FloatKind.f64.format x <;> cases hsy : sgn FloatKind.f64.format y
  · exact ⟨by simp, fun _ => Int.mul_nonneg (sa.2 hsx) (sb.2 hsy)⟩
  · exact ⟨fun _ => Int.mul_nonpos_of_nonneg_of_nonpos (sa.2 hsx) (sb.1 hsy), by simp⟩
  · exact ⟨fun _ => Int.mul_nonpos_of_nonpos_of_nonneg (sa.1 hsx) (sb.2 hsy), by simp⟩
  · exact ⟨by simp, fun _ => Int.mul_nonneg_of_nonpos_of_nonpos (sa.1 hsx) (sb.1 hsy)⟩
end Go.Proofs.Ytfkblhlkeglilaa

namespace Go.Proofs.Ytfkblhlkeglilaa
open Go.RowKit
section
variable {P : Program} {E : Env} {o : Oper}
end
def tc1 (a b c d : Nat) : Nat := fop .sub .f64 (fop .mul .f64 (up a) (up c)) (fop .mul .f64 (up b) (up d))
def tc2 (a b c d : Nat) : Nat := fop .add .f64 (fop .mul .f64 (up a) (up d)) (fop .mul .f64 (up b) (up c))
end Go.Proofs.Ytfkblhlkeglilaa

namespace Go.Proofs.Ytfkblhlkeglilaa
open Go.RowKit
def cl (xs : List (Nat × Nat)) : List Value := xs.map fun p => Value.complex .f32 p.1 p.2
def crents (t : TypeId) (f : Nat → Option Addr × Nat) (xss : List (List (Nat × Nat))) : List Ent := (List.range xss.length).map fun i => ⟨(f i).1, cl (xss.getD i []), (f i).2 * 1, t⟩
theorem crents_mem {t : TypeId} {f : Nat → Option Addr × Nat} {xss : List (List (Nat × Nat))} {i : Nat} (h : i < xss.length) : (⟨(f i).1, cl (xss.getD i []), (f i).2 * 1, t⟩ : Ent) ∈ crents t f xss := by
  unfold crents
  exact List.mem_map.2 ⟨i, by simpa using h, rfl⟩
inductive CRowsIn : List Ent → TypeId → (Nat → Option Addr × Nat) → List (List (Nat × Nat)) → Prop
  | here {t : TypeId} {f : Nat → Option Addr × Nat} {xss : List (List (Nat × Nat))} {O : List Ent} : CRowsIn (crents t f xss ++ O) t f xss
  | last {t : TypeId} {f : Nat → Option Addr × Nat} {xss : List (List (Nat × Nat))} : CRowsIn (crents t f xss) t f xss
  | there {t : TypeId} {f : Nat → Option Addr × Nat} {xss : List (List (Nat × Nat))} {e : Ent} {O : List Ent} : CRowsIn O t f xss → CRowsIn (e :: O) t f xss
  | thereS {t : TypeId} {f : Nat → Option Addr × Nat} {xss : List (List (Nat × Nat))} {S O : List Ent} : CRowsIn O t f xss → CRowsIn (S ++ O) t f xss
theorem CRowsIn.mem {O : List Ent} {t : TypeId} {f : Nat → Option Addr × Nat} {xss : List (List (Nat × Nat))} (h : CRowsIn O t f xss) : ∀ i, i < xss.length → (⟨(f i).1, cl (xss.getD i []), (f i).2 * 1, t⟩ : Ent) ∈ O := by
  induction h with
  | here => exact fun i hi => List.mem_append_left _ (crents_mem hi)
  | last => exact fun i hi => crents_mem hi
  | there _ ih => exact fun i hi => List.mem_cons_of_mem _ (ih i hi)
  | thereS _ ih => exact fun i hi => List.mem_append_right _ (ih i hi)
end Go.Proofs.Ytfkblhlkeglilaa

namespace Go.Proofs.Ytfkblhlkeglilaa
open Go.RowKit
abbrev CP := Nat × Nat
def cT (p q : CP) : CP := (fconv .f64 .f32 (tc1 p.1 p.2 q.1 q.2), fconv .f64 .f32 (tc2 p.1 p.2 q.1 q.2))
section
variable {P : Program} {w0 : World} {O : List Ent} {E : Env} {o : Oper}
end
end Go.Proofs.Ytfkblhlkeglilaa

namespace Go.Proofs.Ytfkblhlkeglilaa
open Go.RowKit
def WW : Rat := ((16777216 * UU : Int) : Rat)
theorem WW_is : WW = 16777216 * ((UU : Int) : Rat) := by unfold WW; rw [Rat.intCast_mul]; rfl
theorem WW_pos : 0 < WW := by
  unfold WW
  have := UU_pos
  have h : (0 : Int) < 16777216 * UU := by omega
  have h2 := (Rat.intCast_lt_intCast (a := 0) (b := 16777216 * UU)).2 h
  exact h2
def qv (x : Nat) (q : Rat) : Prop := ∃ X : Int, apx x X ∧ (X : Rat) = q * WW
theorem i_of_q {A B : Int} {a b : Rat} (hA : (A : Rat) = a * WW) (hB : (B : Rat) = b * WW) (h : a ≤ b) : A ≤ B := by
  rw [← Rat.intCast_le_intCast, hA, hB]
  exact Rat.mul_le_mul_of_nonneg_right h (Rat.le_of_lt WW_pos)
theorem q_of_i {A B : Int} {a b : Rat} (hA : (A : Rat) = a * WW) (hB : (B : Rat) = b * WW) (h : A ≤ B) : a ≤ b := by
  rw [← Rat.intCast_le_intCast, hA, hB] at h
  exact Rat.le_of_mul_le_mul_right h WW_pos
theorem WW2_pos : 0 < WW * WW := Rat.mul_pos WW_pos WW_pos
theorem i_of_q2 {A B : Int} {a b : Rat} (hA : (A : Rat) = a * (WW * WW)) (hB : (B : Rat) = b * (WW * WW)) (h : a ≤ b) : A ≤ B := by
  rw [← Rat.intCast_le_intCast, hA, hB]
  exact Rat.mul_le_mul_of_nonneg_right h (Rat.le_of_lt WW2_pos)
theorem q_of_i2 {A B : Int} {a b : Rat} (hA : (A : Rat) = a * (WW * WW)) (hB : (B : Rat) = b * (WW * WW)) (h : A ≤ B) : a ≤ b := by
  rw [← Rat.intCast_le_intCast, hA, hB] at h
  exact Rat.le_of_mul_le_mul_right h WW2_pos
/-- K is a power of two, not too great. -/
def pw2 (k : Nat) (K : Rat) : Prop := K = ((2 ^ k : Nat) : Rat)
theorem pw2_int {k : Nat} {K : Rat} (h : pw2 k K) : ∃ J : Int, ((2 ^ k : Nat) : Int) = J ∧ (J : Rat) = K := ⟨_, rfl, by rw [h]; rfl⟩
section
variable {x y : Nat} {p q K : Rat} {k : Nat}
theorem qv_add (hK : pw2 k K) (hk : k ≤ 70) (hx : qv x p) (hy : qv y q) (h1 : -K ≤ p + q) (h2 : p + q ≤ K) : ∃ z, qv (fop .add .f32 x y) z ∧ p + q - K / 16777216 ≤ z ∧ z ≤ p + q + K / 16777216 := by
  obtain ⟨X, hX, eX⟩ := hx
  obtain ⟨Y, hY, eY⟩ := hy
  obtain ⟨J, hJ, rfl⟩ := pw2_int hK
  have hw := WW_is
  have hp := WW_pos
  obtain ⟨Z, z1, z2, z3⟩ := er_add k hJ hk hX hY
    (i_of_q (a := -(J : Rat)) (b := p + q) (by push_cast; grind) (by push_cast; grind) h1) (i_of_q (a := p + q) (b := (J : Rat)) (by push_cast; grind) (by push_cast; grind) h2)
  refine ⟨(Z : Rat) / WW, ⟨Z, z1, by grind⟩, q_of_i (B := Z) ?_ (by grind) z2, q_of_i (A := Z) (by grind) ?_ z3⟩
  · push_cast; grind
  · push_cast; grind
theorem qv_mul (hK : pw2 k K) (hk : k ≤ 70) (hx : qv x p) (hy : qv y q) (h1 : -K ≤ p * q) (h2 : p * q ≤ K) : ∃ z, qv (fop .mul .f32 x y) z ∧ p * q - K / 16777216 ≤ z ∧ z ≤ p * q + K / 16777216 := by
  obtain ⟨X, hX, eX⟩ := hx
  obtain ⟨Y, hY, eY⟩ := hy
  obtain ⟨J, hJ, rfl⟩ := pw2_int hK
  have hw := WW_is
  have hp := WW_pos
  obtain ⟨Z, z1, z2, z3⟩ := er_mul k hJ hk hX hY
    (i_of_q2 (a := -(J : Rat)) (b := p * q) (by push_cast; grind) (by push_cast; grind) h1) (i_of_q2 (a := p * q) (b := (J : Rat)) (by push_cast; grind) (by push_cast; grind) h2)
  refine ⟨(Z : Rat) / WW, ⟨Z, z1, by grind⟩, q_of_i2 ?_ ?_ z2, q_of_i2 ?_ ?_ z3⟩
  · push_cast; grind
  · push_cast; grind
  · push_cast; grind
  · push_cast; grind
end
end Go.Proofs.Ytfkblhlkeglilaa

namespace Go.Proofs.Ytfkblhlkeglilaa
open Go.RowKit
def W9 : Rat := WW * ((D9 : Nat) : Rat)
theorem D9_pos : 0 < D9 := by rw [← D9_is]; exact pow_pos' 925
attribute [local irreducible] D9 D7 UU
theorem D9r_pos : (0 : Rat) < ((D9 : Nat) : Rat) := by
  have := (Rat.intCast_lt_intCast (a := 0) (b := ((D9 : Nat) : Int))).2 (by have := D9_pos; omega)
  exact this
theorem W9_pos : 0 < W9 := Rat.mul_pos WW_pos D9r_pos
theorem WW_149 : WW = ((2 ^ 149 : Nat) : Rat) := by
  unfold WW
  rw [BB_is]; rfl
theorem W9_pow {P : Nat} (hP : P = 1074) : W9 = ((2 ^ P : Nat) : Rat) := by
  have h := pow_split (p := P) (q := 149) (r := 925) (by omega)
  rw [D9_is] at h
  unfold W9
  rw [WW_149, ← Rat.natCast_mul, h]
def dv (x : Nat) (q : Rat) : Prop := ∃ V : Int, apd x V ∧ (V : Rat) = q * W9
section
variable {x y : Nat} {p q K : Rat} {k : Nat}
theorem abs_int {X : Int} {m c : Rat} (h1 : -c ≤ (X : Rat)) (h2 : (X : Rat) ≤ c) (hm : c = m) : ((X.natAbs : Nat) : Rat) ≤ m := by
  subst hm
  rcases Int.natAbs_eq X with h | h
  · have : ((X.natAbs : Nat) : Rat) = ((X : Int) : Rat) := by
      have := congrArg (fun z : Int => (z : Rat)) h
      exact this.symm
    rw [this]; exact h2
  · have : ((X.natAbs : Nat) : Rat) = -((X : Int) : Rat) := by
      have h3 : ((X.natAbs : Nat) : Int) = -X := by omega
      have := congrArg (fun z : Int => (z : Rat)) h3
      simp only [Rat.intCast_neg] at this
      exact this
    rw [this]; grind
theorem nat_of_q {a b : Nat} (h : (a : Rat) ≤ (b : Rat)) : a ≤ b := by
  have := (Rat.intCast_le_intCast (a := (a : Int)) (b := (b : Int))).1 h
  omega
theorem dv_narrow (hK : pw2 k K) (hk : k ≤ 70) (hx : dv x p) (h1 : -K ≤ p) (h2 : p ≤ K) : fover .f64 .f32 x = false ∧ ∃ z, qv (fconv .f64 .f32 x) z ∧ p - K / 16777216 ≤ z ∧ z ≤ p + K / 16777216 := by
  obtain ⟨X, hX, eX⟩ := hx
  have hp := W9_pos
  have hq := D9r_pos
  have e24 : ((2 ^ 24 * 2 ^ (125 + k) : Nat) : Rat) = K * WW := by
    rw [hK, WW_149, ← Rat.natCast_mul, ← Nat.pow_add, ← Nat.pow_add]
    congr 2; omega
  have e25 : ((2 ^ (125 + k) : Nat) : Rat) = K * WW / 16777216 := by
    rw [← e24, Rat.natCast_mul]
    have : ((2 ^ 24 : Nat) : Rat) = 16777216 := by rfl
    rw [this]; grind
  obtain ⟨a1, Z, a2, a3, a4⟩ := er_narrowD (c := 125 + k) (by omega) hX (nat_of_q (by
    rw [Rat.natCast_mul, e24]
    refine abs_int (c := K * W9) ?_ ?_ (by unfold W9; grind)
    · rw [eX]
      have := Rat.mul_le_mul_of_nonneg_right h1 (Rat.le_of_lt hp)
      grind
    · rw [eX]
      exact Rat.mul_le_mul_of_nonneg_right h2 (Rat.le_of_lt hp)))
  obtain ⟨z, hz⟩ : ∃ z : Rat, (Z : Rat) = z * WW := ⟨(Z : Rat) / WW, by have := WW_pos; grind⟩
  refine ⟨a1, z, ⟨Z, a2, hz⟩, ?_, ?_⟩
  · have := (Rat.intCast_le_intCast).2 a3
    simp only [Rat.intCast_sub, Rat.intCast_mul, Rat.intCast_natCast] at this
    rw [e25, eX, hz] at this
    unfold W9 at this hp
    have hw := WW_pos
    refine Rat.le_of_mul_le_mul_right (c := WW * ((D9 : Nat) : Rat)) ?_ hp
    generalize ((D9 : Nat) : Rat) = d at *
    grind
  · have := (Rat.intCast_le_intCast).2 a4
    simp only [Rat.intCast_add, Rat.intCast_mul, Rat.intCast_natCast] at this
    rw [e25, eX, hz] at this
    unfold W9 at this hp
    have hw := WW_pos
    refine Rat.le_of_mul_le_mul_right (c := WW * ((D9 : Nat) : Rat)) ?_ hp
    generalize ((D9 : Nat) : Rat) = d at *
    grind
end
end Go.Proofs.Ytfkblhlkeglilaa

namespace Go.Proofs.Ytfkblhlkeglilaa
open Go.RowKit
attribute [local irreducible] D9 D7 UU WW W9
section
variable {p q : CP} {a b K : Rat} {k : Nat}
end
section
variable {x y : Nat} {p q : Rat}
theorem qv_cmp {X Y : Int} (hx : apx x X) (hy : apx y Y) : FloatKind.f32.format.order x y = some (compare X Y) := by
  rw [order_number hx.2.1 hy.2.1, hx.2.2, hy.2.2]
theorem qv_gt (hx : qv x p) (hy : qv y q) (h : q < p) : fcmp .gtr .f32 x y = true := by
  obtain ⟨X, hX, eX⟩ := hx
  obtain ⟨Y, hY, eY⟩ := hy
  show (FloatKind.f32.format.order x y == some .gt) = true
  have : Y < X := by
    rcases (by omega : Y < X ∨ X ≤ Y) with g | g
    · exact g
    · have := q_of_i eX eY g; grind
  rw [qv_cmp hX hY, Int.compare_eq_gt.2 this]; rfl
theorem qv_ngt (hx : qv x p) (hy : qv y q) (h : p ≤ q) : fcmp .gtr .f32 x y = false := by
  obtain ⟨X, hX, eX⟩ := hx
  obtain ⟨Y, hY, eY⟩ := hy
  show (FloatKind.f32.format.order x y == some .gt) = false
  have := i_of_q eX eY h
  rw [qv_cmp hX hY]
  rcases Int.lt_trichotomy X Y with h | h | h
  · rw [Int.compare_eq_lt.2 h]; rfl
  · rw [compare_eq.2 h]; rfl
  · omega
theorem qv_le (hx : qv x p) (hy : qv y q) (h : p ≤ q) : fcmp .leq .f32 x y = true := by
  obtain ⟨X, hX, eX⟩ := hx
  obtain ⟨Y, hY, eY⟩ := hy
  show (FloatKind.f32.format.order x y == some .lt || FloatKind.f32.format.order x y == some .eq) = true
  have := i_of_q eX eY h
  rw [qv_cmp hX hY]
  rcases Int.lt_trichotomy X Y with h | h | h
  · rw [Int.compare_eq_lt.2 h]; rfl
  · rw [compare_eq.2 h]; rfl
  · omega
end
end Go.Proofs.Ytfkblhlkeglilaa

namespace Go.Proofs.Ytfkblhlkeglilaa
open Go.RowKit
attribute [local irreducible] D9 D7 UU WW W9
def Rg (a A : Rat) : Prop := -A ≤ a ∧ a ≤ A
theorem rmul {a b A B : Rat} (h1 : Rg a A) (h2 : Rg b B) : Rg (a * b) (A * B) := by
  obtain ⟨h1, h2'⟩ := h1
  obtain ⟨h3, h4⟩ := h2
  have g1 := Rat.mul_nonneg (show 0 ≤ A - a by grind) (show 0 ≤ B - b by grind)
  have g2 := Rat.mul_nonneg (show 0 ≤ A + a by grind) (show 0 ≤ B + b by grind)
  have g3 := Rat.mul_nonneg (show 0 ≤ A - a by grind) (show 0 ≤ B + b by grind)
  have g4 := Rat.mul_nonneg (show 0 ≤ A + a by grind) (show 0 ≤ B - b by grind)
  exact ⟨by grind, by grind⟩
section
variable {p q : CP} {a b A B S c d u D K : Rat} {k : Nat}
theorem Rg.mono (h : Rg a A) (hAB : A ≤ B) : Rg a B := ⟨by have := h.1; grind, by have := h.2; grind⟩
theorem Rg.sc (h : Rg a (A * S)) (hS : 0 ≤ S) (hAB : A ≤ B) : Rg a (B * S) := h.mono (Rat.mul_le_mul_of_nonneg_right hAB hS)
theorem Rg.add (h1 : Rg a A) (h2 : Rg b B) : Rg (a + b) (A + B) := ⟨by have := h1.1; have := h2.1; grind, by have := h1.2; have := h2.2; grind⟩
theorem Rg.sub (h1 : Rg a A) (h2 : Rg b B) : Rg (a - b) (A + B) := ⟨by have := h1.1; have := h2.2; grind, by have := h1.2; have := h2.1; grind⟩
theorem pw2_mul (j : Nat) {J : Rat} (hJ : ((2 ^ j : Nat) : Rat) = J) (h : pw2 k K) : pw2 (k + j) (J * K) := by
  unfold pw2 at *
  rw [h, ← hJ, ← Rat.natCast_mul, ← Nat.pow_add, Nat.add_comm]
theorem pw2_nn (h : pw2 k K) : 0 ≤ K := by rw [h]; exact Rat.natCast_nonneg
end
theorem qv_zero : qv 0 0 := by
  refine ⟨0, ?_, by simp⟩
  refine ⟨by decide, by decide, ?_⟩
  have h : rng FloatKind.f32.format 0 = 0 := by decide
  have h2 : sgn FloatKind.f32.format 0 = false := by decide
  unfold sval
  rw [h, h2, (units_zero FloatKind.f32.format).2 rfl]; rfl
end Go.Proofs.Ytfkblhlkeglilaa

namespace Go.Proofs.Ytfkblhlkeglilaa
open Go.RowKit
set_option maxRecDepth 20000
theorem rootFrom_spec (n : Nat) : ∀ (todo root : Nat), root * root ≤ n → n < (root + 2 ^ todo) * (root + 2 ^ todo) →
    Ieee.Datum.rootFrom n todo root * Ieee.Datum.rootFrom n todo root ≤ n ∧ n < (Ieee.Datum.rootFrom n todo root + 1) * (Ieee.Datum.rootFrom n todo root + 1)
  | 0, root, h1, h2 => by simpa [Ieee.Datum.rootFrom] using And.intro h1 h2
  | todo + 1, root, h1, h2 => by
    simp only [Ieee.Datum.rootFrom, Nat.shiftLeft_eq, Nat.one_mul]
    split
    · rename_i h
      exact rootFrom_spec n todo (root + 2 ^ todo) h (by rw [Nat.add_assoc, ← Nat.mul_two, ← Nat.pow_succ]; exact h2)
    · rename_i h
      exact rootFrom_spec n todo root h1 (by omega)
theorem root_start (n : Nat) : n < (0 + 2 ^ (n.log2 / 2 + 1)) * (0 + 2 ^ (n.log2 / 2 + 1)) := by
  rw [Nat.zero_add, ← Nat.pow_add]
  exact Nat.lt_of_lt_of_le Nat.lt_log2_self (Nat.pow_le_pow_right (by decide) (by omega))
theorem le_of_sq {a b : Nat} (h : a * a ≤ b * b) : a ≤ b := by
  rcases Nat.lt_or_ge b a with h1 | h1
  · exact absurd h (Nat.not_le.2 (Nat.mul_lt_mul_of_lt_of_le h1 (Nat.le_of_lt h1) (by omega)))
  · exact h1
theorem lt_of_sq {a b : Nat} (h : a * a < b * b) : a < b := by
  rcases Nat.lt_or_ge a b with h1 | h1
  · exact h1
  · exact absurd h (Nat.not_lt.2 (Nat.mul_le_mul h1 h1))
/-- The root in doubles, in units: w is the root cut down, u the step behind it. -/
theorem er_sqrt64 {y P c : Nat} {V : Int} (hP : P = 1074) (hc : c ≤ 1900) (hy : apd y V) (hV : 0 ≤ V) (hb : V.natAbs * 2 ^ P ≤ (2 ^ 52 * 2 ^ c) * (2 ^ 52 * 2 ^ c)) :
    ∃ (Z w u : Nat), apd (fsqrt y) (Z : Int) ∧ w * w ≤ V.natAbs * 2 ^ P ∧ V.natAbs * 2 ^ P ≤ (w + u) * (w + u) ∧ Z ≤ w + 2 * 2 ^ c ∧ w + u ≤ Z + 2 * 2 ^ c ∧ (V = 0 → Z = 0) := by
  obtain ⟨m, e, a1, a2⟩ := read_number FloatKind.f64.format hy.1
  rw [hy.units] at a2
  by_cases h0 : m = 0
  · subst h0
    have hv : V.natAbs = 0 := by rw [← a2, Nat.zero_mul]
    have hV0 : V = 0 := by omega
    have hw : fsqrt y = FloatKind.f64.format.word (sgn FloatKind.f64.format y) 0 := by
      have e0 : fsqrt y = (((FloatKind.f64.format.read y).root 54).map FloatKind.f64.format.write).getD (qn .f64) := rfl
      rw [e0, a1]
      simp only [Ieee.Datum.root]
      rw [if_pos trivial, Option.map_some, Option.getD_some]
      show FloatKind.f64.format.nearest _ _ _ = _
      unfold Ieee.Format.nearest
      rw [if_pos rfl]
    refine ⟨0, 0, 0, ?_, Nat.zero_le _, by rw [hv, Nat.zero_mul]; exact Nat.zero_le _, Nat.zero_le _, Nat.zero_le _, fun _ => rfl⟩
    rw [hw]
    have := apd_word (sgn FloatKind.f64.format y) (r := 0) (by decide)
    rw [(units_zero FloatKind.f64.format).2 rfl] at this
    simpa using this
  · have hs : sgn FloatKind.f64.format y = false := by
      cases hs : sgn FloatKind.f64.format y with
      | false => rfl
      | true =>
        have h3 := hy.sgn.1 hs
        have h4 : V.natAbs = 0 := by omega
        rw [h4] at a2
        have h5 := Nat.mul_eq_zero.1 a2
        have h6 := pow_pos' e
        omega
    rw [hs] at a1
    have hm : m.log2 ≤ 52 := by
      have h3 := (decode_double_bound (x := y) (s := false) (m := m) (e := FloatKind.f64.format.leastPlace + (e : Int)) a1).1
      have := (Nat.log2_lt h0).2 h3
      omega
    obtain ⟨more0, hm0⟩ : ∃ k, k = 2 * 54 - m.log2 := ⟨_, rfl⟩
    obtain ⟨more, hmore⟩ : ∃ k, k = more0 + ((FloatKind.f64.format.leastPlace + (e : Int) - (more0 : Int)) % 2).toNat := ⟨_, rfl⟩
    have hmr : more ≤ 109 ∧ more0 ≤ more ∧ (FloatKind.f64.format.leastPlace + (e : Int) - (more : Int)) % 2 = 0 := by omega
    obtain ⟨hmr1, hmr2, hmr3⟩ := hmr
    obtain ⟨n, hn⟩ : ∃ n, n = m * 2 ^ more := ⟨_, rfl⟩
    obtain ⟨w1, w2⟩ := rootFrom_spec n (n.log2 / 2 + 1) 0 (by rw [Nat.zero_mul]; exact Nat.zero_le _) (root_start n)
    obtain ⟨whole, hwh⟩ : ∃ w, w = Ieee.Datum.rootFrom n (n.log2 / 2 + 1) 0 := ⟨_, rfl⟩
    rw [← hwh] at w1 w2
    obtain ⟨bit, hbit⟩ : ∃ b, b = (whole * whole != n).toNat := ⟨_, rfl⟩
    have hb1 : bit ≤ 1 := by rw [hbit]; cases (whole * whole != n) <;> decide
    rw [lp64] at hmr3
    obtain ⟨b, hbb⟩ : ∃ b : Nat, 2 * (b : Int) = 1072 + (e : Int) - (more : Int) := ⟨((1072 + (e : Int) - (more : Int)) / 2).toNat, by omega⟩
    -- in units
    have hu : n * (2 ^ (b + 1) * 2 ^ (b + 1)) = V.natAbs * 2 ^ P := by
      rw [hn, ← a2, Nat.mul_assoc, Nat.mul_assoc, ← Nat.pow_add, ← Nat.pow_add, ← Nat.pow_add]
      exact congrArg (fun k => m * 2 ^ k) (by omega)
    have hW1 : (whole * 2 ^ (b + 1)) * (whole * 2 ^ (b + 1)) ≤ V.natAbs * 2 ^ P := by
      rw [← hu, show (whole * 2 ^ (b + 1)) * (whole * 2 ^ (b + 1)) = whole * whole * (2 ^ (b + 1) * 2 ^ (b + 1)) by simp only [Nat.mul_assoc, Nat.mul_left_comm, Nat.mul_comm]]
      exact Nat.mul_le_mul_right _ w1
    have hW2 : V.natAbs * 2 ^ P ≤ (whole * 2 ^ (b + 1) + 2 ^ (b + 1)) * (whole * 2 ^ (b + 1) + 2 ^ (b + 1)) := by
      rw [← hu, show (whole * 2 ^ (b + 1) + 2 ^ (b + 1)) = (whole + 1) * 2 ^ (b + 1) by rw [Nat.add_mul, Nat.one_mul], show ((whole + 1) * 2 ^ (b + 1)) * ((whole + 1) * 2 ^ (b + 1)) = (whole + 1) * (whole + 1) * (2 ^ (b + 1) * 2 ^ (b + 1)) by simp only [Nat.mul_assoc, Nat.mul_left_comm, Nat.mul_comm]]
      exact Nat.mul_le_mul_right _ (Nat.le_of_lt w2)
    have hwb : whole * 2 ^ (b + 1) ≤ 2 ^ 52 * 2 ^ c := le_of_sq (Nat.le_trans hW1 hb)
    have hwl : 2 ^ 53 ≤ whole := by
      have h3 : 2 ^ 108 ≤ n := by
        have h4 := Nat.log2_self_le h0
        rw [hn]
        calc 2 ^ 108 ≤ 2 ^ (m.log2 + more) := Nat.pow_le_pow_right (by decide) (by omega)
          _ = 2 ^ m.log2 * 2 ^ more := by rw [← Nat.pow_add]
          _ ≤ _ := Nat.mul_le_mul_right _ h4
      have h5 : (2 ^ 54) * (2 ^ 54) < (whole + 1) * (whole + 1) := Nat.lt_of_le_of_lt (by decide : (2 ^ 54) * (2 ^ 54) ≤ 2 ^ 108) (Nat.lt_of_le_of_lt h3 w2)
      have h6 := lt_of_sq h5
      have h7 : (2 : Nat) ^ 53 ≤ 2 ^ 54 := by decide
      omega
    have hU : 2 ^ (b + 1) ≤ 2 ^ c := by
      have h3 : 2 ^ 52 * 2 ^ (b + 1) ≤ 2 ^ 52 * 2 ^ c := Nat.le_trans (Nat.mul_le_mul_right _ (Nat.le_trans (by decide) hwl)) hwb
      exact Nat.le_of_mul_le_mul_left h3 (by decide)
    have hpb : 2 ^ (b + 1) = 2 * 2 ^ b := by rw [Nat.pow_succ, Nat.mul_comm]
    have hbm : bit * 2 ^ b ≤ 2 ^ b := by
      have := Nat.mul_le_mul_right (2 ^ b) hb1
      rwa [Nat.one_mul] at this
    have hM : (2 * whole + bit) * 2 ^ b = whole * 2 ^ (b + 1) + bit * 2 ^ b := by rw [Nat.add_mul, hpb]; simp only [Nat.mul_assoc, Nat.mul_comm]
    obtain ⟨r, r1, r2, r3, r4⟩ := er_core64 false (m := 2 * whole + bit) (a := 0) (b := b) (c := c) (e := (FloatKind.f64.format.leastPlace + (e : Int) - (more : Int)) / 2 - 1) hc (by rw [lp64]; omega) (by
      rw [Nat.pow_zero, Nat.mul_one, hM]
      have h3 : (2 : Nat) ^ 53 = 2 ^ 52 + 2 ^ 52 := by decide
      rw [h3, Nat.add_mul]
      have h4 : 2 ^ c ≤ 2 ^ 52 * 2 ^ c := Nat.le_mul_of_pos_left _ (by decide)
      omega)
    rw [Nat.pow_zero, Nat.mul_one, Nat.mul_one, hM] at r3 r4
    have hw : fsqrt y = FloatKind.f64.format.word false r := by
      have e0 : fsqrt y = (((FloatKind.f64.format.read y).root 54).map FloatKind.f64.format.write).getD (qn .f64) := rfl
      rw [e0, a1]
      simp only [Ieee.Datum.root, if_neg h0, Bool.false_eq_true, if_false, Option.map_some, Option.getD_some, ← hm0, ← hmore, shl_eq, ← hn, ← hwh, ← hbit]
      exact r1
    refine ⟨units FloatKind.f64.format r, whole * 2 ^ (b + 1), 2 ^ (b + 1), ?_, hW1, hW2, by omega, by omega, fun h => ?_⟩
    · rw [hw]
      have := apd_word false r2
      simpa using this
    · rw [h] at a2
      have h5 := Nat.mul_eq_zero.1 (show m * 2 ^ e = 0 from a2)
      have h6 := pow_pos' e
      omega
attribute [local irreducible] D9 D7 UU WW W9
section
variable {x : Nat} {v K : Rat} {k : Nat}
theorem rsq_mono {a b : Rat} (h0 : 0 ≤ a) (h : a ≤ b) : a * a ≤ b * b := by
  have h1 := Rat.mul_le_mul_of_nonneg_right h h0
  have h2 := Rat.mul_le_mul_of_nonneg_left h (Rat.le_trans h0 h)
  grind
theorem rsq_le {a b : Rat} (hb : 0 ≤ b) (h : a * a ≤ b * b) : a ≤ b := by
  rcases (Rat.le_total : a ≤ b ∨ b ≤ a) with h1 | h1
  · exact h1
  · have h3 := rsq_mono hb h1
    have h4 : a * a = b * b := by grind
    have h5 : (a - b) * (a + b) = 0 := by grind
    rcases Rat.mul_eq_zero.1 h5 with h6 | h6
    · grind
    · grind
theorem qv_up {q : Rat} (h : qv x q) : dv (up x) q := by
  obtain ⟨X, hX, eX⟩ := h
  have h2 := apd_up hX
  rw [D9_is] at h2
  refine ⟨_, h2, ?_⟩
  have : ((X * ((D9 : Nat) : Int) : Int) : Rat) = (X : Rat) * ((D9 : Nat) : Rat) := by rw [Rat.intCast_mul]; rfl
  rw [this, eX]
  unfold W9
  grind
theorem qv_sqrt (hK : pw2 k K) (hk : k ≤ 60) (hx : qv x v) (h0 : 0 ≤ v) (h : v ≤ K * K) :
    ∃ z ω, qv (sqrt32 x) z ∧ 0 ≤ ω ∧ ω * ω ≤ v ∧ z ≤ ω + K / 4194304 ∧ 0 ≤ z + K / 4194304 ∧ v ≤ (z + K / 4194304) * (z + K / 4194304) := by
  obtain ⟨V, h1, h2⟩ := qv_up hx
  obtain ⟨P, hP⟩ : ∃ P : Nat, P = 1074 := ⟨_, rfl⟩
  have hp := W9_pos
  have e1 := W9_pow hP
  obtain ⟨c, hc⟩ : ∃ c : Nat, c + 52 = P + k := ⟨P + k - 52, by omega⟩
  have hV : 0 ≤ V := by
    have := Rat.mul_nonneg h0 (Rat.le_of_lt hp)
    rw [← h2] at this
    exact Rat.intCast_le_intCast.1 this
  have hK0 := pw2_nn hK
  have e2 : ((2 ^ 52 * 2 ^ c : Nat) : Rat) = K * W9 := by
    rw [hK, e1, ← Rat.natCast_mul, ← Nat.pow_add, ← Nat.pow_add]
    congr 2; omega
  have e3 : ((2 ^ c : Nat) : Rat) = K * W9 / 4503599627370496 := by
    rw [Rat.natCast_mul] at e2
    have : ((2 ^ 52 : Nat) : Rat) = 4503599627370496 := by rfl
    rw [this] at e2
    grind
  have hVn : ((V.natAbs : Nat) : Rat) = v * W9 := by
    rw [← h2]
    have h3 : ((V.natAbs : Nat) : Int) = V := by omega
    exact congrArg (fun z : Int => (z : Rat)) h3
  have hpp := Rat.mul_pos hp hp
  obtain ⟨Z, w, u, z1, z2, z3, z4, z5, _⟩ := er_sqrt64 hP (c := c) (by omega) h1 hV (nat_of_q (by
    rw [Rat.natCast_mul, Rat.natCast_mul (2 ^ 52 * 2 ^ c), e2, hVn, ← e1]
    have := Rat.mul_le_mul_of_nonneg_right h (Rat.le_of_lt hpp)
    grind))
  have q2 : ((w * w : Nat) : Rat) ≤ ((V.natAbs * 2 ^ P : Nat) : Rat) := Rat.natCast_le_natCast.2 z2
  have q3 : ((V.natAbs * 2 ^ P : Nat) : Rat) ≤ (((w + u) * (w + u) : Nat) : Rat) := Rat.natCast_le_natCast.2 z3
  have q4 : ((Z : Nat) : Rat) ≤ ((w + 2 * 2 ^ c : Nat) : Rat) := Rat.natCast_le_natCast.2 z4
  have q5 : ((w + u : Nat) : Rat) ≤ ((Z + 2 * 2 ^ c : Nat) : Rat) := Rat.natCast_le_natCast.2 z5
  simp only [Rat.natCast_mul, Rat.natCast_add, hVn, e3, ← e1] at q2 q3 q4 q5
  have hw0 : (0 : Rat) ≤ ((w : Nat) : Rat) := Rat.natCast_nonneg
  have hu0 : (0 : Rat) ≤ ((u : Nat) : Rat) := Rat.natCast_nonneg
  have hZ0 : (0 : Rat) ≤ ((Z : Nat) : Rat) := Rat.natCast_nonneg
  have h22 : ((2 : Nat) : Rat) = 2 := rfl
  rw [h22] at q4 q5
  obtain ⟨ω, hω⟩ : ∃ ω : Rat, ((w : Nat) : Rat) = ω * W9 := ⟨((w : Nat) : Rat) / W9, by grind⟩
  obtain ⟨υ, hυ⟩ : ∃ υ : Rat, ((u : Nat) : Rat) = υ * W9 := ⟨((u : Nat) : Rat) / W9, by grind⟩
  obtain ⟨ζ, hζ⟩ : ∃ ζ : Rat, ((Z : Nat) : Rat) = ζ * W9 := ⟨((Z : Nat) : Rat) / W9, by grind⟩
  rw [hω] at q2 q3 q4 q5 hw0
  rw [hυ] at q3 q5 hu0
  rw [hζ] at q4 q5 hZ0
  have a0 : 0 ≤ ω := Rat.le_of_mul_le_mul_right (c := W9) (by rw [Rat.zero_mul]; exact hw0) hp
  have a1 : 0 ≤ υ := Rat.le_of_mul_le_mul_right (c := W9) (by rw [Rat.zero_mul]; exact hu0) hp
  have a2 : 0 ≤ ζ := Rat.le_of_mul_le_mul_right (c := W9) (by rw [Rat.zero_mul]; exact hZ0) hp
  have b2 : ω * ω ≤ v := Rat.le_of_mul_le_mul_right (c := W9 * W9) (by grind) hpp
  have b3 : v ≤ (ω + υ) * (ω + υ) := Rat.le_of_mul_le_mul_right (c := W9 * W9) (by grind) hpp
  have b4 : ζ ≤ ω + 2 * (K / 4503599627370496) := Rat.le_of_mul_le_mul_right (c := W9) (by grind) hp
  have b5 : ω + υ ≤ ζ + 2 * (K / 4503599627370496) := Rat.le_of_mul_le_mul_right (c := W9) (by grind) hp
  have hωK : ω ≤ K := rsq_le hK0 (Rat.le_trans b2 h)
  have hdv : dv (fsqrt (up x)) ζ := ⟨(Z : Int), z1, by rw [← hζ]; rfl⟩
  obtain ⟨_, z, g1, g2, g3⟩ := dv_narrow (pw2_mul 1 (J := 2) rfl hK) (by omega) hdv (by grind) (by grind)
  refine ⟨z, ω, g1, a0, b2, by grind, by grind, Rat.le_trans b3 (rsq_mono (by grind) (by grind))⟩
end
end Go.Proofs.Ytfkblhlkeglilaa

namespace Go.Proofs.Ytfkblhlkeglilaa
open Go.RowKit
set_option maxRecDepth 20000
attribute [local irreducible] D9 D7 UU WW W9
def u24 : Rat := 1 / 16777216
theorem ex_pw2 {v : Rat} (h0 : 0 ≤ v) : ∀ n : Nat, v ≤ ((2 ^ n : Nat) : Rat) → ∃ k K, pw2 k K ∧ k ≤ n ∧ v ≤ K ∧ K ≤ 1 + 2 * v
  | 0, h => ⟨0, 1, rfl, Nat.le_refl _, h, by grind⟩
  | n + 1, h => by
    by_cases h1 : v ≤ ((2 ^ n : Nat) : Rat)
    · obtain ⟨k, K, a, b, c, d⟩ := ex_pw2 h0 n h1
      exact ⟨k, K, a, by omega, c, d⟩
    · refine ⟨n + 1, ((2 ^ (n + 1) : Nat) : Rat), rfl, Nat.le_refl _, h, ?_⟩
      rw [Nat.pow_succ, Rat.natCast_mul]
      have : ((2 : Nat) : Rat) = 2 := rfl
      rw [this]
      grind
theorem big60 {B : Rat} (h : B ≤ 1000000000000000000) : B ≤ ((2 ^ 60 : Nat) : Rat) := by
  have : ((2 ^ 60 : Nat) : Rat) = 1152921504606846976 := by rfl
  rw [this]; grind
section
variable {x y : Nat} {p q v w A B E F G : Rat}
theorem Rg.nn (h : Rg p B) : 0 ≤ B := by obtain ⟨h1, h2⟩ := h; grind
theorem rd_add (hx : qv x p) (hy : qv y q) (h : Rg (p + q) B) (hB : B ≤ 1000000000000000000) : ∃ z, qv (fop .add .f32 x y) z ∧ Rg (z - (p + q)) ((1 + 2 * B) * u24) := by
  obtain ⟨k, K, a, b, c, d⟩ := ex_pw2 h.nn 60 (big60 hB)
  obtain ⟨h1, h2⟩ := h
  obtain ⟨z, z1, z2, z3⟩ := qv_add a (by omega) hx hy (by grind) (by grind)
  refine ⟨z, z1, ?_⟩
  unfold u24 Rg
  constructor <;> grind
theorem rd_mul (hx : qv x p) (hy : qv y q) (h : Rg (p * q) B) (hB : B ≤ 1000000000000000000) : ∃ z, qv (fop .mul .f32 x y) z ∧ Rg (z - p * q) ((1 + 2 * B) * u24) := by
  obtain ⟨k, K, a, b, c, d⟩ := ex_pw2 h.nn 60 (big60 hB)
  obtain ⟨h1, h2⟩ := h
  obtain ⟨z, z1, z2, z3⟩ := qv_mul a (by omega) hx hy (by grind) (by grind)
  refine ⟨z, z1, ?_⟩
  unfold u24 Rg
  constructor <;> grind
theorem qv_apx0 (h : qv x 0) : apx x 0 := by
  obtain ⟨X, hX, eX⟩ := h
  rw [Rat.zero_mul] at eX
  have : X = 0 := Rat.intCast_inj.1 eX
  rw [← this]; exact hX
theorem apx_qv0 (h : apx x 0) : qv x 0 := ⟨0, h, by rw [Rat.zero_mul]; rfl⟩
theorem qv_sub_eq (hx : qv x p) (hy : qv y p) : qv (fop .sub .f32 x y) 0 := by
  obtain ⟨X, hX, eX⟩ := hx
  obtain ⟨Y, hY, eY⟩ := hy
  have e : X = Y := Rat.intCast_inj.1 (eX.trans eY.symm)
  subst e
  obtain ⟨s, M, q, e1, e2, e3, e4⟩ := sum_units hX.2.1 hY.2.1 true
  simp only [if_true] at e1 e2 e3 e4
  rw [hX.2.2, hY.2.2] at e2 e3 e4
  have h0 : X + -X = 0 := by omega
  rw [h0] at e2 e3 e4
  have := dy_write (k := .f32) (s := s) (M := M) (q := q) (X := 0) (v := 0) e2 (by rw [Int.zero_mul]) e3 e4 (by decide)
  have hw : fop .sub .f32 x y = FloatKind.f32.format.write (.number s M (FloatKind.f32.format.leastPlace + (q : Int))) := by
    show ((((FloatKind.f32.format.read x).sum (FloatKind.f32.format.read y).opposite).map FloatKind.f32.format.write).getD (qn .f32)) = _
    rw [e1]; rfl
  rw [hw]
  have h2 := apx_dy this
  rw [Int.zero_mul] at h2
  exact apx_qv0 h2
theorem qv_add00 (hx : qv x 0) (hy : qv y 0) : qv (fop .add .f32 x y) 0 := by
  have h1 := qv_apx0 hx
  have h2 := qv_apx0 hy
  have d1 : dy .f32 x 0 := ⟨h1.1, h1.2.1, by rw [h1.2.2, Int.zero_mul]⟩
  have d2 : dy .f32 y 0 := ⟨h2.1, h2.2.1, by rw [h2.2.2, Int.zero_mul]⟩
  have := apx_dy (dy_add d1 d2 (by decide))
  rw [Int.add_zero, Int.zero_mul] at this
  exact apx_qv0 this
end
/-- The three numbers of a vector. -/
structure qv3 (w : V3) (a b c : Rat) : Prop where
  x : qv w.1 a
  y : qv w.2.1 b
  z : qv w.2.2 c
section
variable {a b p r s : V3} {a1 a2 a3 b1 b2 b3 p1 p2 p3 r1 r2 r3 s1 s2 s3 A E : Rat}
end
end Go.Proofs.Ytfkblhlkeglilaa

namespace Go.Proofs.Ytfkblhlkeglilaa
open Go.RowKit
set_option maxRecDepth 20000
attribute [local irreducible] D9 D7 UU WW W9
def ab (p : Rat) : Rat := if 0 ≤ p then p else -p
theorem rg_ab (p : Rat) : Rg p (ab p) := by unfold ab Rg; split <;> constructor <;> grind
theorem ab_le {p B : Rat} (h : Rg p B) : ab p ≤ B := by obtain ⟨h1, h2⟩ := h; unfold ab; split <;> grind
theorem ab_nn (p : Rat) : 0 ≤ ab p := (rg_ab p).nn
theorem u24_0 : 0 ≤ u24 := by decide +kernel
section
variable {x y aw lw zw bw yw : Nat} {p q v A B C D E l a b z M : Rat}
theorem rg_lin (h : Rg E B) (hq : 0 ≤ q) : -(B * q) ≤ E * q ∧ E * q ≤ B * q := by
  have h1 := Rat.mul_le_mul_of_nonneg_right h.1 hq
  have h2 := Rat.mul_le_mul_of_nonneg_right h.2 hq
  exact ⟨by grind, h2⟩
theorem sq_nn (p : Rat) : 0 ≤ p * p := by
  rcases (Rat.le_total : 0 ≤ p ∨ p ≤ 0) with h | h
  · exact Rat.mul_nonneg h h
  · have := Rat.mul_nonneg (a := -p) (b := -p) (by grind) (by grind)
    grind
end
end Go.Proofs.Ytfkblhlkeglilaa

namespace Go.Proofs.Ytfkblhlkeglilaa
open Go.RowKit
set_option maxRecDepth 20000
theorem cut_near (s : Bool) (n d : Nat) : 2 * (Ieee.Toward.even.cut s n d * 2 ^ d) ≤ 2 * n + 2 ^ d ∧ 2 * n ≤ 2 * (Ieee.Toward.even.cut s n d * 2 ^ d) + 2 ^ d := by
  unfold Ieee.Toward.cut
  simp only [Nat.shiftLeft_eq, Nat.one_mul]
  by_cases hd : d ≤ n.log2 + 2
  · rw [Nat.min_eq_left hd]
    have h1 := Nat.div_add_mod n (2 ^ d)
    have h2 := Nat.mod_lt n (pow_pos' d)
    rw [Nat.mul_comm] at h1
    generalize 2 ^ d = G at *
    generalize n / G = q at *
    generalize n % G = r at *
    rw [Nat.add_mul]
    cases hm : (decide (G < 2 * r) || (G == 2 * r && q % 2 == 1)) with
    | true =>
      simp only [Bool.toNat_true, Nat.one_mul]
      simp only [Bool.or_eq_true, decide_eq_true_eq, Bool.and_eq_true, beq_iff_eq] at hm
      omega
    | false =>
      simp only [Bool.toNat_false, Nat.zero_mul, Nat.add_zero]
      have : ¬ G < 2 * r := by
        intro h
        rw [decide_eq_true h] at hm
        simp at hm
      omega
  · rw [Nat.min_eq_right (by omega)]
    have hlt : n < 2 ^ (n.log2 + 1) := Nat.lt_log2_self
    have e1 : 2 ^ (n.log2 + 2) = 2 * 2 ^ (n.log2 + 1) := by rw [Nat.pow_succ, Nat.mul_comm]
    have h3 : 2 ^ (n.log2 + 2) ≤ 2 ^ d := Nat.pow_le_pow_right (by decide) (by omega)
    have hq : n / 2 ^ (n.log2 + 2) = 0 := Nat.div_eq_of_lt (by omega)
    have hr : n % 2 ^ (n.log2 + 2) = n := Nat.mod_eq_of_lt (by omega)
    rw [hq, hr]
    have hm : (decide (2 ^ (n.log2 + 2) < 2 * n) || (2 ^ (n.log2 + 2) == 2 * n && 0 % 2 == 1)) = false := by
      have : ¬ 2 ^ (n.log2 + 2) < 2 * n := by omega
      simp [this]
    rw [hm]
    simp only [Bool.toNat_false, Nat.add_zero, Nat.zero_mul]
    omega
theorem units_tk {t K : Nat} (h : t = 0 ∨ 2 ^ 23 ≤ K) (hK : K ≤ 2 ^ 24) : units FloatKind.f32.format (t * 2 ^ 23 + K) = K * 2 ^ t := by
  have hb : FloatKind.f32.format.binade = 2 ^ 23 := by decide
  unfold units
  rw [hb]
  by_cases h0 : t * 2 ^ 23 + K < 2 ^ 23
  · rw [if_pos h0]
    have : t = 0 := by omega
    subst this
    simp
  · rw [if_neg h0]
    by_cases h1 : K = 2 ^ 24
    · subst h1
      have e0 : t * 2 ^ 23 + 2 ^ 24 = (t + 2) * 2 ^ 23 := by omega
      rw [e0, Nat.mul_mod_left, Nat.mul_div_cancel _ (by decide), Nat.add_zero, show t + 2 - 1 = 1 + t by omega, Nat.pow_add, ← Nat.mul_assoc]
    · have hK2 : 2 ^ 23 ≤ K := by
        rcases h with h | h
        · subst h; omega
        · exact h
      have e0 : t * 2 ^ 23 + K = (K - 2 ^ 23) + (t + 1) * 2 ^ 23 := by omega
      rw [e0, Nat.add_mul_mod_self_right, Nat.mod_eq_of_lt (by omega), Nat.add_mul_div_right _ _ (by decide), Nat.div_eq_of_lt (by omega), Nat.zero_add, Nat.add_sub_cancel, show 2 ^ 23 + (K - 2 ^ 23) = K by omega]
theorem rl_core (s : Bool) {m a b c : Nat} {e : Int} (hc : c ≤ 200) (he : e + a = FloatKind.f32.format.leastPlace + b) (h : m * 2 ^ b ≤ 2 ^ 24 * 2 ^ c * 2 ^ a) :
    ∃ r, FloatKind.f32.format.nearest s m e = FloatKind.f32.format.word s r ∧ r < FloatKind.f32.format.infRung ∧ 2 ^ 24 * (units FloatKind.f32.format r * 2 ^ a) ≤ 2 ^ 24 * (m * 2 ^ b) + (m * 2 ^ b + 2 ^ 23 * 2 ^ a) ∧ 2 ^ 24 * (m * 2 ^ b) ≤ 2 ^ 24 * (units FloatKind.f32.format r * 2 ^ a) + (m * 2 ^ b + 2 ^ 23 * 2 ^ a) := by
  obtain ⟨r, r1, r2, r3, r4⟩ := er_core s hc he h
  refine ⟨r, r1, r2, ?_⟩
  by_cases hm : m = 0
  · subst hm
    have : r = 0 := by
      unfold Ieee.Format.nearest at r1
      rw [if_pos rfl] at r1
      have h1 := rng_word .f32 s (r := r) (Nat.le_of_lt r2)
      have h2 := rng_word .f32 s (r := 0) (by decide)
      rw [← h1.1, ← h2.1, ← r1]
    subst this
    rw [(units_zero _).2 rfl]
    simp
  have hbd : FloatKind.f32.format.binade = 2 ^ 23 := by decide
  have hfb : FloatKind.f32.format.fractionBits = 23 := by decide
  unfold Ieee.Format.nearest at r1
  rw [if_neg hm] at r1
  obtain ⟨t, ht⟩ : ∃ t : Nat, max (e + (m.log2 : Int) - (FloatKind.f32.format.fractionBits : Int)) FloatKind.f32.format.leastPlace = FloatKind.f32.format.leastPlace + (t : Int) :=
    ⟨(max (e + (m.log2 : Int) - (FloatKind.f32.format.fractionBits : Int)) FloatKind.f32.format.leastPlace - FloatKind.f32.format.leastPlace).toNat, by omega⟩
  simp only [ht] at r1
  have e1 : (FloatKind.f32.format.leastPlace + (t : Int) - FloatKind.f32.format.leastPlace).toNat = t := by omega
  rw [e1] at r1
  rw [hfb] at ht
  obtain ⟨K, hK⟩ : ∃ K, K = Ieee.Toward.even.cut s (m <<< (e - (FloatKind.f32.format.leastPlace + t)).toNat) ((FloatKind.f32.format.leastPlace + t) - e).toNat := ⟨_, rfl⟩
  rw [← hK, hbd] at r1
  have hlog := Nat.log2_self_le hm
  have hlt : m < 2 ^ (m.log2 + 1) := Nat.lt_log2_self
  -- what is kept, nearly
  have key : 2 * (K * 2 ^ t * 2 ^ a) ≤ 2 * (m * 2 ^ b) + 2 ^ t * 2 ^ a ∧ 2 * (m * 2 ^ b) ≤ 2 * (K * 2 ^ t * 2 ^ a) + 2 ^ t * 2 ^ a := by
    rw [Nat.mul_assoc, ← Nat.pow_add]
    rcases Nat.le_total (t + a) b with hle | hle
    · have g1 : (e - (FloatKind.f32.format.leastPlace + t)).toNat = b - (t + a) := by omega
      have g2 : ((FloatKind.f32.format.leastPlace + t) - e).toNat = 0 := by omega
      rw [g1, g2, cut_zero, shl_eq] at hK
      have : K * 2 ^ (t + a) = m * 2 ^ b := by
        rw [hK, Nat.mul_assoc, ← Nat.pow_add, show b - (t + a) + (t + a) = b by omega]
      rw [this]
      exact ⟨Nat.le_add_right _ _, Nat.le_add_right _ _⟩
    · have g1 : (e - (FloatKind.f32.format.leastPlace + t)).toNat = 0 := by omega
      have g2 : ((FloatKind.f32.format.leastPlace + t) - e).toNat = t + a - b := by omega
      rw [g1, g2, shl_eq, Nat.pow_zero, Nat.mul_one] at hK
      obtain ⟨k1, k2⟩ := cut_near s m (t + a - b)
      rw [← hK] at k1 k2
      have e5 : 2 ^ (t + a) = 2 ^ (t + a - b) * 2 ^ b := by rw [← Nat.pow_add]; congr 1; omega
      have k3 := Nat.mul_le_mul_right (2 ^ b) k1
      have k4 := Nat.mul_le_mul_right (2 ^ b) k2
      rw [e5]
      rw [Nat.add_mul] at k3 k4
      have e6 : 2 * (K * 2 ^ (t + a - b)) * 2 ^ b = 2 * (K * (2 ^ (t + a - b) * 2 ^ b)) := by simp only [Nat.mul_assoc]
      have e7 : 2 * m * 2 ^ b = 2 * (m * 2 ^ b) := by rw [Nat.mul_assoc]
      rw [e6, e7] at k3 k4
      exact ⟨k3, k4⟩
  have hP : 0 < 2 ^ t * 2 ^ a := Nat.mul_pos (pow_pos' _) (pow_pos' _)
  have hmb : m * 2 ^ b < 2 ^ 24 * (2 ^ t * 2 ^ a) := by
    have h1 : m * 2 ^ b < 2 ^ (m.log2 + 1) * 2 ^ b := Nat.mul_lt_mul_of_pos_right hlt (pow_pos' _)
    refine Nat.lt_of_lt_of_le h1 ?_
    rw [← Nat.pow_add, ← Nat.pow_add, ← Nat.pow_add]
    exact Nat.pow_le_pow_right (by decide) (by omega)
  have hKle : K ≤ 2 ^ 24 := by
    rcases Nat.lt_or_ge (2 ^ 24) K with h1 | h1
    · have h2 : (2 ^ 24 + 1) * (2 ^ t * 2 ^ a) ≤ K * (2 ^ t * 2 ^ a) := Nat.mul_le_mul_right _ h1
      rw [Nat.mul_assoc] at key
      generalize 2 ^ t * 2 ^ a = G at *
      omega
    · exact h1
  have hbig : t = 0 ∨ 2 ^ 23 * (2 ^ t * 2 ^ a) ≤ m * 2 ^ b := by
    rcases Nat.eq_zero_or_pos t with h0 | h0
    · exact .inl h0
    · right
      have h3 : 23 + (t + a) = m.log2 + b := by omega
      rw [← Nat.pow_add, ← Nat.pow_add, h3, Nat.pow_add]
      exact Nat.mul_le_mul_right _ hlog
  have hKge : t = 0 ∨ 2 ^ 23 ≤ K := by
    rcases hbig with h0 | h0
    · exact .inl h0
    · right
      rcases Nat.lt_or_ge K (2 ^ 23) with h1 | h1
      · have h2 : (K + 1) * (2 ^ t * 2 ^ a) ≤ 2 ^ 23 * (2 ^ t * 2 ^ a) := Nat.mul_le_mul_right _ h1
        rw [Nat.mul_assoc] at key
        generalize 2 ^ t * 2 ^ a = G at *
        rw [Nat.add_mul] at h2
        omega
      · exact h1
  have hr : r = t * 2 ^ 23 + K := by
    have h1 := rng_word .f32 s (r := r) (Nat.le_of_lt r2)
    have h2 := rng_word .f32 s (r := min (t * 2 ^ 23 + K) FloatKind.f32.format.infRung) (Nat.min_le_right _ _)
    have h3 : r = min (t * 2 ^ 23 + K) FloatKind.f32.format.infRung := by rw [← h1.1, ← h2.1, ← r1]
    rcases Nat.le_total (t * 2 ^ 23 + K) FloatKind.f32.format.infRung with h4 | h4
    · rw [Nat.min_eq_left h4] at h3; exact h3
    · rw [Nat.min_eq_right h4] at h3; omega
  rw [hr, units_tk hKge hKle]
  obtain ⟨k1, k2⟩ := key
  generalize K * 2 ^ t * 2 ^ a = A at *
  generalize m * 2 ^ b = B at *
  rcases hbig with h0 | h0
  · subst h0
    rw [Nat.pow_zero, Nat.one_mul] at k1 k2
    generalize 2 ^ a = G at *
    omega
  · generalize 2 ^ t * 2 ^ a = G at *
    have : 0 < 2 ^ a := pow_pos' a
    generalize 2 ^ a = H at *
    omega
end Go.Proofs.Ytfkblhlkeglilaa

namespace Go.Proofs.Ytfkblhlkeglilaa
open Go.RowKit
set_option maxRecDepth 20000
/-- Less than any normal number. -/
def tn : Rat := 1 / 10000000000000000000000000000000000000000
theorem tn_0 : 0 ≤ tn := by decide +kernel
theorem tn_W : 1 ≤ 2 * tn * WW := by rw [WW_149]; decide +kernel
attribute [local irreducible] D9 D7 UU WW W9
theorem ab_of (p : Rat) : ab p = p ∧ 0 ≤ p ∨ ab p = -p ∧ p ≤ 0 := by
  unfold ab
  by_cases h : 0 ≤ p
  · rw [if_pos h]; exact .inl ⟨rfl, h⟩
  · rw [if_neg h]; exact .inr ⟨rfl, by grind⟩
theorem rl_near (s : Bool) {m a b : Nat} {e : Int} {v : Rat} (he : e + a = FloatKind.f32.format.leastPlace + b) (hN : ((m * 2 ^ b : Nat) : Rat) = ab v * (WW * ((2 ^ a : Nat) : Rat))) (hs : s = true → v ≤ 0) (hs2 : s = false → 0 ≤ v) (hv : Rg v 1000000000000000000) :
    ∃ z, qv (FloatKind.f32.format.nearest s m e) z ∧ Rg (z - v) (u24 * ab v + tn) := by
  have hW := WW_pos
  have hA : (0 : Rat) < ((2 ^ a : Nat) : Rat) := by
    have := Rat.natCast_lt_natCast.2 (pow_pos' a)
    exact this
  obtain ⟨r, r1, r2, r3, r4⟩ := rl_core s (m := m) (a := a) (b := b) (c := 185) (e := e) (by omega) he (by
    have h1 : ab v ≤ ((2 ^ 60 : Nat) : Rat) := Rat.le_trans (ab_le hv) (by decide +kernel)
    have h2 := Rat.mul_le_mul_of_nonneg_right h1 (Rat.le_of_lt (Rat.mul_pos hW hA))
    rw [← hN, WW_149, ← Rat.natCast_mul, ← Rat.natCast_mul] at h2
    have h3 := Rat.natCast_le_natCast.1 h2
    have e9 : 2 ^ 24 * 2 ^ 185 * 2 ^ a = 2 ^ 60 * (2 ^ 149 * 2 ^ a) := by
      rw [← Nat.mul_assoc, ← Nat.pow_add, ← Nat.pow_add]
    rw [e9]; exact h3)
  rw [r1]
  obtain ⟨z, hz⟩ : ∃ z, z = ((if s then -(units FloatKind.f32.format r : Int) else (units FloatKind.f32.format r : Int) : Int) : Rat) / WW := ⟨_, rfl⟩
  refine ⟨z, ⟨_, er_word s r2, by rw [hz, Rat.div_mul_cancel (by intro h; rw [h] at hW; exact absurd hW (by decide))]⟩, ?_⟩
  have q3 := Rat.natCast_le_natCast.2 r3
  have q4 := Rat.natCast_le_natCast.2 r4
  generalize units FloatKind.f32.format r = U at *
  rw [Rat.natCast_mul m] at hN
  simp only [Rat.natCast_add, Rat.natCast_mul] at q3 q4
  rw [hN] at q3 q4
  have c24 : ((2 ^ 24 : Nat) : Rat) = 16777216 := rfl
  have c23 : ((2 ^ 23 : Nat) : Rat) = 8388608 := rfl
  rw [c24, c23] at q3 q4
  have ht := tn_W
  have hv0 := ab_of v
  have ha0 := ab_nn v
  generalize ab v = α at *
  generalize ((2 ^ a : Nat) : Rat) = A at *
  clear r1 r2 r3 r4 he hv
  generalize WW = W at *
  have k3 : 16777216 * (U : Rat) ≤ 16777216 * (α * W) + (α * W + 8388608) := Rat.le_of_mul_le_mul_right (c := A) (by grind) hA
  have k4 : 16777216 * (α * W) ≤ 16777216 * (U : Rat) + (α * W + 8388608) := Rat.le_of_mul_le_mul_right (c := A) (by grind) hA
  have hzW : z * W = ((if s then -(U : Int) else (U : Int) : Int) : Rat) := by rw [hz, Rat.div_mul_cancel (by intro h; rw [h] at hW; exact absurd hW (by decide))]
  have hu : u24 * 16777216 = 1 := by decide +kernel
  clear hz q3 q4 hN c24 c23
  have hcore : z * W = (U : Rat) ∧ v = α ∨ z * W = -(U : Rat) ∧ v = -α := by
    cases s with
    | true =>
      right
      have := hs rfl
      refine ⟨by rw [hzW]; rfl, ?_⟩
      rcases hv0 with ⟨h1, h2⟩ | ⟨h1, h2⟩ <;> grind
    | false =>
      left
      have := hs2 rfl
      refine ⟨by rw [hzW]; rfl, ?_⟩
      rcases hv0 with ⟨h1, h2⟩ | ⟨h1, h2⟩ <;> grind
  have g : (z - v) * W = z * W - v * W := by grind
  have g2 : (u24 * α + tn) * W * 16777216 = α * W + tn * W * 16777216 := by grind
  constructor
  · refine Rat.le_of_mul_le_mul_right (c := W) ?_ hW
    rcases hcore with ⟨h1, h2⟩ | ⟨h1, h2⟩ <;> (rw [g, h1, h2]; grind)
  · refine Rat.le_of_mul_le_mul_right (c := W) ?_ hW
    rcases hcore with ⟨h1, h2⟩ | ⟨h1, h2⟩ <;> (rw [g, h1, h2]; grind)
theorem ab_cast (V : Int) {v : Rat} (h : (V : Rat) = v * WW) : ((V.natAbs : Nat) : Rat) = ab v * WW := by
  have hW := WW_pos
  rcases Int.le_total 0 V with h0 | h0
  · have h1 : ((V.natAbs : Nat) : Int) = V := by omega
    have h2 : 0 ≤ v := Rat.le_of_mul_le_mul_right (c := WW) (by rw [Rat.zero_mul, ← h]; exact Rat.intCast_le_intCast.2 h0) hW
    have h3 : ab v = v := by unfold ab; rw [if_pos h2]
    rw [h3, ← h]
    exact congrArg (fun z : Int => (z : Rat)) h1
  · have h1 : ((V.natAbs : Nat) : Int) = -V := by omega
    have h2 : v ≤ 0 := Rat.le_of_mul_le_mul_right (c := WW) (by rw [Rat.zero_mul, ← h]; exact Rat.intCast_le_intCast.2 h0) hW
    have h3 : ab v = -v := by rcases ab_of v with ⟨a, b⟩ | ⟨a, b⟩ <;> grind
    have h4 : ((V.natAbs : Nat) : Rat) = ((-V : Int) : Rat) := congrArg (fun z : Int => (z : Rat)) h1
    rw [h3, h4, Rat.intCast_neg, h]; grind
section
variable {x y : Nat} {p q : Rat}
theorem rl_sum (t : Bool) {X Y : Int} {v : Rat} (hx : apx x X) (hy : apx y Y) (hV : ((X + (if t then -Y else Y) : Int) : Rat) = v * WW) (hv : Rg v 1000000000000000000) :
    ∃ z, qv (((((FloatKind.f32.format.read x).sum (if t then (FloatKind.f32.format.read y).opposite else FloatKind.f32.format.read y)).map FloatKind.f32.format.write).getD (qn .f32))) z ∧ Rg (z - v) (u24 * ab v + tn) := by
  obtain ⟨s, M, q, e1, e2, e3, e4⟩ := sum_units hx.2.1 hy.2.1 t
  rw [hx.2.2, hy.2.2] at e2 e3 e4
  have hc := ab_cast _ hV
  generalize X + (if t then -Y else Y) = V at *
  have hW := WW_pos
  have hsg : ∀ {a : Rat}, a * WW ≤ 0 → a ≤ 0 := fun h => Rat.le_of_mul_le_mul_right (c := WW) (by rw [Rat.zero_mul]; exact h) hW
  have hsg2 : ∀ {a : Rat}, 0 ≤ a * WW → 0 ≤ a := fun h => Rat.le_of_mul_le_mul_right (c := WW) (by rw [Rat.zero_mul]; exact h) hW
  have := rl_near s (m := M) (a := 0) (b := q) (e := FloatKind.f32.format.leastPlace + (q : Int)) (v := v) (by omega) (by
      rw [e2, hc]
      have : ((2 ^ 0 : Nat) : Rat) = 1 := rfl
      rw [this, Rat.mul_one]) (fun h => hsg (by rw [← hV]; exact Rat.intCast_le_intCast.2 (e3 h))) (fun h => hsg2 (by rw [← hV]; exact Rat.intCast_le_intCast.2 (e4 h))) hv
  rw [e1]
  exact this
theorem rl_add (hx : qv x p) (hy : qv y q) (h : Rg (p + q) 1000000000000000000) : ∃ z, qv (fop .add .f32 x y) z ∧ Rg (z - (p + q)) (u24 * ab (p + q) + tn) := by
  obtain ⟨X, hX, eX⟩ := hx
  obtain ⟨Y, hY, eY⟩ := hy
  exact rl_sum false hX hY (by simp only [Bool.false_eq_true, if_false]; rw [Rat.intCast_add, eX, eY]; grind) h
theorem rl_sub (hx : qv x p) (hy : qv y q) (h : Rg (p - q) 1000000000000000000) : ∃ z, qv (fop .sub .f32 x y) z ∧ Rg (z - (p - q)) (u24 * ab (p - q) + tn) := by
  obtain ⟨X, hX, eX⟩ := hx
  obtain ⟨Y, hY, eY⟩ := hy
  exact rl_sum true hX hY (by simp only [if_true]; rw [Rat.intCast_add, Rat.intCast_neg, eX, eY]; grind) h
theorem ab_mul (p q : Rat) : ab (p * q) = ab p * ab q := by
  rcases ab_of p with ⟨h1, h2⟩ | ⟨h1, h2⟩ <;> rcases ab_of q with ⟨h3, h4⟩ | ⟨h3, h4⟩ <;> rw [h1, h3]
  · have := Rat.mul_nonneg h2 h4
    rcases ab_of (p * q) with ⟨g1, g2⟩ | ⟨g1, g2⟩ <;> grind
  · have := Rat.mul_nonneg h2 (show 0 ≤ -q by grind)
    rcases ab_of (p * q) with ⟨g1, g2⟩ | ⟨g1, g2⟩ <;> grind
  · have := Rat.mul_nonneg (show 0 ≤ -p by grind) h4
    rcases ab_of (p * q) with ⟨g1, g2⟩ | ⟨g1, g2⟩ <;> grind
  · have := Rat.mul_nonneg (show 0 ≤ -p by grind) (show 0 ≤ -q by grind)
    rcases ab_of (p * q) with ⟨g1, g2⟩ | ⟨g1, g2⟩ <;> grind
theorem sg_xor {X Y : Int} (hx : apx x X) (hy : apx y Y) (eX : (X : Rat) = p * WW) (eY : (Y : Rat) = q * WW) : ((sgn FloatKind.f32.format x ^^ sgn FloatKind.f32.format y) = true → p * q ≤ 0) ∧ ((sgn FloatKind.f32.format x ^^ sgn FloatKind.f32.format y) = false → 0 ≤ p * q) := by
  obtain ⟨s1, s2⟩ := sgn_xor hx hy
  have hp := WW2_pos
  have e : ((X * Y : Int) : Rat) = p * q * (WW * WW) := by rw [Rat.intCast_mul, eX, eY]; grind
  constructor
  · intro h
    refine Rat.le_of_mul_le_mul_right (c := WW * WW) ?_ hp
    rw [Rat.zero_mul, ← e]
    exact Rat.intCast_le_intCast.2 (s1 h)
  · intro h
    refine Rat.le_of_mul_le_mul_right (c := WW * WW) ?_ hp
    rw [Rat.zero_mul, ← e]
    exact Rat.intCast_le_intCast.2 (s2 h)
theorem rl_mul (hx : qv x p) (hy : qv y q) (h : Rg (p * q) 1000000000000000000) : ∃ z, qv (fop .mul .f32 x y) z ∧ Rg (z - p * q) (u24 * ab (p * q) + tn) := by
  obtain ⟨X, hX, eX⟩ := hx
  obtain ⟨Y, hY, eY⟩ := hy
  obtain ⟨m, e, a1, a2⟩ := read_number FloatKind.f32.format hX.2.1
  obtain ⟨n, d, b1, b2⟩ := read_number FloatKind.f32.format hY.2.1
  rw [hX.units] at a2
  rw [hY.units] at b2
  obtain ⟨s1, s2⟩ := sg_xor hX hY eX eY
  have c1 := ab_cast X eX
  have c2 := ab_cast Y eY
  have hw : fop .mul .f32 x y = FloatKind.f32.format.nearest (sgn FloatKind.f32.format x ^^ sgn FloatKind.f32.format y) (m * n) (FloatKind.f32.format.leastPlace + (e : Int) + (FloatKind.f32.format.leastPlace + (d : Int))) := by
    unfold fop floatBits Ieee.Format.mul
    simp only [a1, b1, Ieee.Datum.product, Option.map_some, Option.getD_some]
    rfl
  rw [hw]
  refine rl_near _ (a := 149) (b := e + d) (by rw [lp32]; omega) ?_ s1 s2 h
  have e1 : m * n * 2 ^ (e + d) = X.natAbs * Y.natAbs := by rw [← a2, ← b2, Nat.pow_add]; simp only [Nat.mul_assoc, Nat.mul_left_comm]
  rw [e1, Rat.natCast_mul, c1, c2, ab_mul, ← WW_149]
  grind
theorem rl_quo (hx : qv x p) (hy : qv y q) (hq : 0 < q) (h : Rg p (500000000000000000 * q)) : ∃ z, qv (fop .quo .f32 x y) z ∧ Rg (z * q - p) (2 * u24 * ab p + tn * q) := by
  obtain ⟨X, hX, eX⟩ := hx
  obtain ⟨Y, hY, eY⟩ := hy
  obtain ⟨m, e, a1, a2⟩ := read_number FloatKind.f32.format hX.2.1
  obtain ⟨n, d, b1, b2⟩ := read_number FloatKind.f32.format hY.2.1
  rw [hX.units] at a2
  rw [hY.units] at b2
  obtain ⟨s1, s2⟩ := sg_xor hX hY eX eY
  have c1 := ab_cast X eX
  have c2 := ab_cast Y eY
  have aq : ab q = q := by unfold ab; rw [if_pos (Rat.le_of_lt hq)]
  rw [aq] at c2
  have hW := WW_pos
  have hn : 0 < n := by
    rcases Nat.eq_zero_or_pos n with h0 | h0
    · rw [h0, Nat.zero_mul] at b2
      rw [← b2] at c2
      have := Rat.mul_pos hq hW
      rw [← c2] at this
      exact absurd this (by decide)
    · exact h0
  generalize hM : 25 + n.log2 - m.log2 = more
  have hnm : m ≠ 0 → n * 2 ^ 24 ≤ m * 2 ^ more := by
    intro h0
    have g1 := Nat.log2_self_le h0
    have g2 : n < 2 ^ (n.log2 + 1) := Nat.lt_log2_self
    calc n * 2 ^ 24 ≤ 2 ^ (n.log2 + 1) * 2 ^ 24 := Nat.mul_le_mul_right _ (Nat.le_of_lt g2)
      _ = 2 ^ (n.log2 + 25) := by rw [← Nat.pow_add]
      _ ≤ 2 ^ (m.log2 + more) := Nat.pow_le_pow_right (by decide) (by omega)
      _ = 2 ^ m.log2 * 2 ^ more := by rw [← Nat.pow_add]
      _ ≤ _ := Nat.mul_le_mul_right _ g1
  obtain ⟨q1, q2⟩ := quo_sticky (D := m * 2 ^ more) hn
  have hz0 : m = 0 → 2 * ((m * 2 ^ more) / n) + ((m * 2 ^ more) % n != 0).toNat = 0 := by intro h0; rw [h0]; simp
  generalize hMM : 2 * ((m * 2 ^ more) / n) + ((m * 2 ^ more) % n != 0).toNat = M at q1 q2 hz0
  have hw : fop .quo .f32 x y = FloatKind.f32.format.nearest (sgn FloatKind.f32.format x ^^ sgn FloatKind.f32.format y) M (FloatKind.f32.format.leastPlace + (e : Int) - (FloatKind.f32.format.leastPlace + (d : Int)) - more - 1) := by
    have e0 : fop .quo .f32 x y = ((((FloatKind.f32.format.read x).quotient 25 (FloatKind.f32.format.read y)).map FloatKind.f32.format.write).getD (qn .f32)) := rfl
    rw [e0, a1, b1]
    simp only [Ieee.Datum.quotient, if_neg (Nat.ne_of_gt hn), Option.map_some, Option.getD_some, hM]
    rw [← hMM, shl_eq]
    rfl
  rw [hw]
  -- the number that is rounded
  have hA : (0 : Rat) < ((2 ^ (d + more + 1) : Nat) : Rat) := Rat.natCast_lt_natCast.2 (pow_pos' _)
  have hWA := Rat.mul_pos hW hA
  obtain ⟨w, hw2⟩ : ∃ w, w = ((M * 2 ^ (e + 149) : Nat) : Rat) / (WW * ((2 ^ (d + more + 1) : Nat) : Rat)) := ⟨_, rfl⟩
  have hwA : ((M * 2 ^ (e + 149) : Nat) : Rat) = w * (WW * ((2 ^ (d + more + 1) : Nat) : Rat)) := by
    rw [hw2, Rat.div_mul_cancel]; intro h; rw [h] at hWA; exact absurd hWA (by decide)
  have hw0 : 0 ≤ w := by
    refine Rat.le_of_mul_le_mul_right (c := WW * ((2 ^ (d + more + 1) : Nat) : Rat)) ?_ hWA
    rw [Rat.zero_mul, ← hwA]
    exact Rat.natCast_nonneg
  -- near the quotient
  have hD : ((m * 2 ^ more * 2 ^ (e + 149) : Nat) : Rat) = ab p * WW * ((2 ^ more : Nat) : Rat) * WW := by
    have e1 : m * 2 ^ more * 2 ^ (e + 149) = X.natAbs * 2 ^ more * 2 ^ 149 := by rw [← a2, Nat.pow_add]; simp only [Nat.mul_assoc, Nat.mul_left_comm]
    rw [e1, Rat.natCast_mul, Rat.natCast_mul, c1, ← WW_149]
  have hnA : ((n * 2 ^ (d + more + 1) : Nat) : Rat) = q * WW * ((2 ^ more : Nat) : Rat) * 2 := by
    have e1 : n * 2 ^ (d + more + 1) = Y.natAbs * 2 ^ more * 2 := by rw [← b2, Nat.pow_succ, Nat.pow_add]; simp only [Nat.mul_assoc]
    rw [e1, Rat.natCast_mul, Rat.natCast_mul, c2]; rfl
  have hP : (0 : Rat) < ((2 ^ more : Nat) : Rat) := Rat.natCast_lt_natCast.2 (pow_pos' _)
  have hnb : ((n * 2 ^ (e + 149) : Nat) : Rat) * 16777216 ≤ ab p * WW * ((2 ^ more : Nat) : Rat) * WW ∨ M = 0 ∧ ab p = 0 := by
    by_cases h0 : m = 0
    · right
      refine ⟨hz0 h0, ?_⟩
      rw [h0, Nat.zero_mul] at a2
      rw [← a2] at c1
      have c1 : ab p * WW = 0 := c1.symm
      rcases Rat.mul_eq_zero.1 c1 with h1 | h1
      · exact h1
      · rw [h1] at hW; exact absurd hW (by decide)
    · left
      have h3 := Nat.mul_le_mul_right (2 ^ (e + 149)) (hnm h0)
      have h4 := Rat.natCast_le_natCast.2 h3
      rw [hD] at h4
      have e6 : n * 2 ^ 24 * 2 ^ (e + 149) = n * 2 ^ (e + 149) * 2 ^ 24 := by simp only [Nat.mul_assoc, Nat.mul_left_comm, Nat.mul_comm]
      rw [e6, Rat.natCast_mul] at h4
      exact h4
  have u1 := Rat.natCast_le_natCast.2 (Nat.mul_le_mul_right (2 ^ (e + 149)) q1)
  have u2 := Rat.natCast_le_natCast.2 (Nat.mul_le_mul_right (2 ^ (e + 149)) q2)
  have e5 : n * M * 2 ^ (e + 149) = n * (M * 2 ^ (e + 149)) := Nat.mul_assoc _ _ _
  rw [Nat.add_mul, Nat.mul_assoc 2, e5, Rat.natCast_add, Rat.natCast_mul 2, hD, Rat.natCast_mul n (M * _), hwA] at u1 u2
  have c22 : ((2 : Nat) : Rat) = 2 := rfl
  rw [c22] at u1 u2
  have e7 : (n : Rat) * (w * (WW * ((2 ^ (d + more + 1) : Nat) : Rat))) = w * WW * ((n * 2 ^ (d + more + 1) : Nat) : Rat) := by rw [Rat.natCast_mul n (2 ^ _)]; grind
  rw [e7, hnA] at u1 u2
  have hPW : 0 < ((2 ^ more : Nat) : Rat) * (WW * WW) := Rat.mul_pos hP WW2_pos
  have ha0 := ab_nn p
  have v1 : w * q ≤ ab p * (1 + 1 / 33554432) := by
    refine Rat.le_of_mul_le_mul_right (c := ((2 ^ more : Nat) : Rat) * (WW * WW)) ?_ hPW
    rcases hnb with hb | ⟨hb, hb2⟩
    · grind
    · have hw9 : w = 0 := by
        rw [hb, Nat.zero_mul] at hwA
        rcases Rat.mul_eq_zero.1 hwA.symm with h1 | h1
        · exact h1
        · rw [h1] at hWA; exact absurd hWA (by decide)
      rw [hb2, hw9]; grind
  have v2 : ab p * (1 - 1 / 33554432) ≤ w * q := by
    refine Rat.le_of_mul_le_mul_right (c := ((2 ^ more : Nat) : Rat) * (WW * WW)) ?_ hPW
    rcases hnb with hb | ⟨hb, hb2⟩
    · grind
    · have hw9 : w = 0 := by
        rw [hb, Nat.zero_mul] at hwA
        rcases Rat.mul_eq_zero.1 hwA.symm with h1 | h1
        · exact h1
        · rw [h1] at hWA; exact absurd hWA (by decide)
      rw [hb2, hw9]; grind
  have hab := ab_le h
  have hw9 : w ≤ 1000000000000000000 := by
    refine Rat.le_of_mul_le_mul_right (c := q) ?_ hq
    grind
  have hpq : ∀ {a : Rat}, 0 ≤ a * q → 0 ≤ a := fun h => Rat.le_of_mul_le_mul_right (c := q) (by rw [Rat.zero_mul]; exact h) hq
  have hu : u24 = 1 / 16777216 := rfl
  have ht := tn_0
  cases hs : (sgn FloatKind.f32.format x ^^ sgn FloatKind.f32.format y) with
  | false =>
    have g1 := hpq (s2 hs)
    have g2 : ab p = p := by unfold ab; rw [if_pos g1]
    have g3 : ab w = w := by unfold ab; rw [if_pos hw0]
    obtain ⟨z, z1, z2⟩ := rl_near false (m := M) (a := d + more + 1) (b := e + 149) (e := FloatKind.f32.format.leastPlace + (e : Int) - (FloatKind.f32.format.leastPlace + (d : Int)) - more - 1) (v := w) (by rw [lp32]; omega) (by rw [g3]; exact hwA) (by simp) (fun _ => hw0) ⟨by grind, hw9⟩
    refine ⟨z, z1, ?_⟩
    rw [g3] at z2
    have z3 := Rat.mul_le_mul_of_nonneg_right z2.1 (Rat.le_of_lt hq)
    have z4 := Rat.mul_le_mul_of_nonneg_right z2.2 (Rat.le_of_lt hq)
    rw [g2] at v1 v2 ⊢
    rw [hu] at z3 z4 ⊢
    constructor <;> grind
  | true =>
    have g1 : p ≤ 0 := by
      have := s1 hs
      have : 0 ≤ -p := hpq (by grind)
      grind
    have g2 : ab p = -p := by rcases ab_of p with ⟨a, b⟩ | ⟨a, b⟩ <;> grind
    have g3 : ab (-w) = w := by rcases ab_of (-w) with ⟨a, b⟩ | ⟨a, b⟩ <;> grind
    obtain ⟨z, z1, z2⟩ := rl_near true (m := M) (a := d + more + 1) (b := e + 149) (e := FloatKind.f32.format.leastPlace + (e : Int) - (FloatKind.f32.format.leastPlace + (d : Int)) - more - 1) (v := -w) (by rw [lp32]; omega) (by rw [g3]; exact hwA) (fun _ => by grind) (by simp) ⟨by grind, by grind⟩
    refine ⟨z, z1, ?_⟩
    rw [g3] at z2
    have z3 := Rat.mul_le_mul_of_nonneg_right z2.1 (Rat.le_of_lt hq)
    have z4 := Rat.mul_le_mul_of_nonneg_right z2.2 (Rat.le_of_lt hq)
    rw [g2] at v1 v2 ⊢
    rw [hu] at z3 z4 ⊢
    constructor <;> grind
end
end Go.Proofs.Ytfkblhlkeglilaa

namespace Go.Proofs.Ytfkblhlkeglilaa
open Go.RowKit
set_option maxRecDepth 20000
theorem D9_rat : ((2 ^ 925 : Nat) : Rat) = ((D9 : Nat) : Rat) := by rw [D9_is]
attribute [local irreducible] D9 D7 UU WW W9
theorem ab_castW (V : Int) {v W : Rat} (hW : 0 < W) (h : (V : Rat) = v * W) : ((V.natAbs : Nat) : Rat) = ab v * W := by
  rcases Int.le_total 0 V with h0 | h0
  · have h1 : ((V.natAbs : Nat) : Int) = V := by omega
    have h2 : 0 ≤ v := Rat.le_of_mul_le_mul_right (c := W) (by rw [Rat.zero_mul, ← h]; exact Rat.intCast_le_intCast.2 h0) hW
    have h3 : ab v = v := by unfold ab; rw [if_pos h2]
    rw [h3, ← h]
    exact congrArg (fun z : Int => (z : Rat)) h1
  · have h1 : ((V.natAbs : Nat) : Int) = -V := by omega
    have h2 : v ≤ 0 := Rat.le_of_mul_le_mul_right (c := W) (by rw [Rat.zero_mul, ← h]; exact Rat.intCast_le_intCast.2 h0) hW
    have h3 : ab v = -v := by rcases ab_of v with ⟨a, b⟩ | ⟨a, b⟩ <;> grind
    have h4 : ((V.natAbs : Nat) : Rat) = ((-V : Int) : Rat) := congrArg (fun z : Int => (z : Rat)) h1
    rw [h3, h4, Rat.intCast_neg, h]; grind
section
variable {x : Nat} {p v c E : Rat}
theorem rl_narrow (hx : dv x p) (h : Rg p 1000000000000000000) : ∃ z, qv (fconv .f64 .f32 x) z ∧ Rg (z - p) (u24 * ab p + tn) := by
  obtain ⟨X, hX, eX⟩ := hx
  obtain ⟨m, e, a1, a2⟩ := read_number FloatKind.f64.format hX.1
  have hu : units FloatKind.f64.format (rng FloatKind.f64.format x) = X.natAbs := by
    have := congrArg Int.natAbs hX.2
    unfold sval at this
    split at this <;> simpa using this
  have hs : (sgn FloatKind.f64.format x = true → X ≤ 0) ∧ (sgn FloatKind.f64.format x = false → 0 ≤ X) := by
    have := hX.2
    unfold sval at this
    constructor <;> intro hs <;> rw [hs] at this <;> simp at this <;> omega
  rw [hu] at a2
  have hp := W9_pos
  have hw9 : W9 = WW * ((D9 : Nat) : Rat) := by unfold W9; grind
  have hd : FloatKind.f64.decode x = .number (sgn FloatKind.f64.format x) m (FloatKind.f64.format.leastPlace + (e : Int)) := a1
  have hw : fconv .f64 .f32 x = FloatKind.f32.format.nearest (sgn FloatKind.f64.format x) m (FloatKind.f64.format.leastPlace + (e : Int)) := by
    unfold fconv
    rw [if_neg (by decide), hd]
    rfl
  rw [hw]
  refine rl_near _ (a := 925) (b := e) (by rw [lp64, lp32]; omega) ?_ (fun h => Rat.le_of_mul_le_mul_right (c := W9) (by rw [Rat.zero_mul, ← eX]; exact Rat.intCast_le_intCast.2 (hs.1 h)) hp) (fun h => Rat.le_of_mul_le_mul_right (c := W9) (by rw [Rat.zero_mul, ← eX]; exact Rat.intCast_le_intCast.2 (hs.2 h)) hp) h
  rw [a2, D9_rat, ← hw9]
  exact ab_castW X hp eX
/-- The root in doubles. -/
theorem rt64 {K : Rat} {k : Nat} (hK : pw2 k K) (hk : k ≤ 60) (hx : qv x v) (h0 : 0 ≤ v) (h : v ≤ K * K) : ∃ ζ ω, dv (fsqrt (up x)) ζ ∧ 0 ≤ ζ ∧ 0 ≤ ω ∧ ω * ω ≤ v ∧ ζ ≤ ω + K / 2251799813685248 ∧ v ≤ (ζ + K / 2251799813685248) * (ζ + K / 2251799813685248) := by
  obtain ⟨V, h1, h2⟩ := qv_up hx
  obtain ⟨P, hP⟩ : ∃ P : Nat, P = 1074 := ⟨_, rfl⟩
  have hp := W9_pos
  have e1 := W9_pow hP
  obtain ⟨c, hc⟩ : ∃ c : Nat, c + 52 = P + k := ⟨P + k - 52, by omega⟩
  have hV : 0 ≤ V := by
    have := Rat.mul_nonneg h0 (Rat.le_of_lt hp)
    rw [← h2] at this
    exact Rat.intCast_le_intCast.1 this
  have e2 : ((2 ^ 52 * 2 ^ c : Nat) : Rat) = K * W9 := by
    rw [hK, e1, ← Rat.natCast_mul, ← Nat.pow_add, ← Nat.pow_add]
    congr 2; omega
  have e3 : ((2 ^ c : Nat) : Rat) = K * W9 / 4503599627370496 := by
    rw [Rat.natCast_mul] at e2
    have : ((2 ^ 52 : Nat) : Rat) = 4503599627370496 := by rfl
    rw [this] at e2
    grind
  have hVn : ((V.natAbs : Nat) : Rat) = v * W9 := by
    rw [← h2]
    have h3 : ((V.natAbs : Nat) : Int) = V := by omega
    exact congrArg (fun z : Int => (z : Rat)) h3
  have hpp := Rat.mul_pos hp hp
  obtain ⟨Z, w, u, z1, z2, z3, z4, z5, _⟩ := er_sqrt64 hP (c := c) (by omega) h1 hV (nat_of_q (by
    rw [Rat.natCast_mul, Rat.natCast_mul (2 ^ 52 * 2 ^ c), e2, hVn, ← e1]
    have := Rat.mul_le_mul_of_nonneg_right h (Rat.le_of_lt hpp)
    grind))
  have q2 : ((w * w : Nat) : Rat) ≤ ((V.natAbs * 2 ^ P : Nat) : Rat) := Rat.natCast_le_natCast.2 z2
  have q3 : ((V.natAbs * 2 ^ P : Nat) : Rat) ≤ (((w + u) * (w + u) : Nat) : Rat) := Rat.natCast_le_natCast.2 z3
  have q4 : ((Z : Nat) : Rat) ≤ ((w + 2 * 2 ^ c : Nat) : Rat) := Rat.natCast_le_natCast.2 z4
  have q5 : ((w + u : Nat) : Rat) ≤ ((Z + 2 * 2 ^ c : Nat) : Rat) := Rat.natCast_le_natCast.2 z5
  simp only [Rat.natCast_mul, Rat.natCast_add, hVn, e3, ← e1] at q2 q3 q4 q5
  have hw0 : (0 : Rat) ≤ ((w : Nat) : Rat) := Rat.natCast_nonneg
  have hu0 : (0 : Rat) ≤ ((u : Nat) : Rat) := Rat.natCast_nonneg
  have hZ0 : (0 : Rat) ≤ ((Z : Nat) : Rat) := Rat.natCast_nonneg
  have h22 : ((2 : Nat) : Rat) = 2 := rfl
  rw [h22] at q4 q5
  obtain ⟨ω, hω⟩ : ∃ ω : Rat, ((w : Nat) : Rat) = ω * W9 := ⟨((w : Nat) : Rat) / W9, by grind⟩
  obtain ⟨υ, hυ⟩ : ∃ υ : Rat, ((u : Nat) : Rat) = υ * W9 := ⟨((u : Nat) : Rat) / W9, by grind⟩
  obtain ⟨ζ, hζ⟩ : ∃ ζ : Rat, ((Z : Nat) : Rat) = ζ * W9 := ⟨((Z : Nat) : Rat) / W9, by grind⟩
  rw [hω] at q2 q3 q4 q5 hw0
  rw [hυ] at q3 q5 hu0
  rw [hζ] at q4 q5 hZ0
  have a0 : 0 ≤ ω := Rat.le_of_mul_le_mul_right (c := W9) (by rw [Rat.zero_mul]; exact hw0) hp
  have a1 : 0 ≤ υ := Rat.le_of_mul_le_mul_right (c := W9) (by rw [Rat.zero_mul]; exact hu0) hp
  have a2 : 0 ≤ ζ := Rat.le_of_mul_le_mul_right (c := W9) (by rw [Rat.zero_mul]; exact hZ0) hp
  have b2 : ω * ω ≤ v := Rat.le_of_mul_le_mul_right (c := W9 * W9) (by grind) hpp
  have b3 : v ≤ (ω + υ) * (ω + υ) := Rat.le_of_mul_le_mul_right (c := W9 * W9) (by grind) hpp
  have b4 : ζ ≤ ω + K / 2251799813685248 := Rat.le_of_mul_le_mul_right (c := W9) (by grind) hp
  have b5 : ω + υ ≤ ζ + K / 2251799813685248 := Rat.le_of_mul_le_mul_right (c := W9) (by grind) hp
  exact ⟨ζ, ω, ⟨(Z : Int), z1, by rw [← hζ]; rfl⟩, a2, a0, b2, b4, Rat.le_trans b3 (rsq_mono (by grind) (by grind))⟩
/-- A root, by its square. -/
theorem rl_root {ρ K : Rat} {k : Nat} (hK : pw2 k K) (hk : k ≤ 20) (hx : qv x v) (hc : 0 < c) (h0 : c * c ≤ v) (h : v ≤ K * K) (hρ : K / 1125899906842624 ≤ ρ * c) (ρ1 : ρ ≤ 1 / 1000) (e1 : (1 + ρ) * (1 + ρ) ≤ (1 - u24 - ρ) * (1 - u24 - ρ) * (1 + E)) (e2 : (1 + u24 + ρ) * (1 + u24 + ρ) ≤ (1 - ρ) * (1 - ρ) * (1 + E)) (hE : 0 ≤ E) :
    ∃ z, qv (sqrt32 x) z ∧ 0 < z ∧ v ≤ z * z * (1 + E) ∧ z * z ≤ v * (1 + E) := by
  obtain ⟨ζ, ω, d1, d2, d3, d4, d5, d6⟩ := rt64 hK (by omega) hx (Rat.le_trans (Rat.le_of_lt (Rat.mul_pos hc hc)) h0) h
  have hK1 : 1 ≤ K := by
    rw [hK]
    have : ((1 : Nat) : Rat) = 1 := rfl
    rw [← this]
    exact Rat.natCast_le_natCast.2 (pow_pos' k)
  have hK9 : K ≤ 1048576 := by
    rw [hK]
    have : ((2 ^ 20 : Nat) : Rat) = 1048576 := rfl
    rw [← this]
    exact Rat.natCast_le_natCast.2 (Nat.pow_le_pow_right (by decide) hk)
  have hω : ω ≤ K := rsq_le (by grind) (Rat.le_trans d4 h)
  obtain ⟨z, z1, z2⟩ := rl_narrow d1 ⟨by grind, by grind⟩
  have ha : ab ζ = ζ := by unfold ab; rw [if_pos d2]
  rw [ha] at z2
  have hcz : c ≤ ζ + K / 2251799813685248 := rsq_le (by grind) (Rat.le_trans h0 d6)
  have ρc : ρ * c ≤ 1 / 1000 * c := Rat.mul_le_mul_of_nonneg_right ρ1 (Rat.le_of_lt hc)
  have hζ2 : c ≤ 2 * ζ := by grind
  have hρ0 : 0 ≤ ρ := Rat.le_of_mul_le_mul_right (c := c) (by rw [Rat.zero_mul]; exact Rat.le_trans (by grind) hρ) hc
  have hδ : K / 2251799813685248 ≤ ρ * ζ := by
    have := Rat.mul_le_mul_of_nonneg_left hζ2 hρ0
    grind
  have ht : tn ≤ K / 2251799813685248 := by
    have : tn ≤ 1 / 2251799813685248 := by decide +kernel
    grind
  have hu : u24 = 1 / 16777216 := rfl
  obtain ⟨s, hs⟩ : ∃ s, s = ζ * ζ := ⟨_, rfl⟩
  have s0 : 0 ≤ s := by rw [hs]; exact Rat.mul_nonneg d2 d2
  have k1 : v ≤ s * ((1 + ρ) * (1 + ρ)) := by
    have := rsq_mono (a := ζ + K / 2251799813685248) (b := ζ * (1 + ρ)) (by grind) (by grind)
    rw [hs]; grind
  have k2 : s * ((1 - ρ) * (1 - ρ)) ≤ v := by
    have := rsq_mono (a := ζ * (1 - ρ)) (b := ω) (Rat.mul_nonneg d2 (by grind)) (by grind)
    rw [hs]; grind
  have lo : ζ * (1 - u24 - ρ) ≤ z := by obtain ⟨z3, _⟩ := z2; grind
  have hi : z ≤ ζ * (1 + u24 + ρ) := by obtain ⟨_, z3⟩ := z2; grind
  have lo0 : 0 ≤ 1 - u24 - ρ := by rw [hu]; grind
  have lo1 := Rat.mul_nonneg d2 lo0
  have k3 : s * ((1 - u24 - ρ) * (1 - u24 - ρ)) ≤ z * z := by
    have := rsq_mono lo1 lo
    rw [hs]; grind
  have k4 : z * z ≤ s * ((1 + u24 + ρ) * (1 + u24 + ρ)) := by
    have := rsq_mono (a := z) (b := ζ * (1 + u24 + ρ)) (by grind) hi
    rw [hs]; grind
  refine ⟨z, z1, ?_, ?_, ?_⟩
  · have : 0 < ζ := by grind
    have := Rat.mul_pos this (show 0 < 1 - u24 - ρ by rw [hu]; grind)
    grind
  · have g1 := Rat.mul_le_mul_of_nonneg_left e1 s0
    have g2 := Rat.mul_le_mul_of_nonneg_right k3 (show 0 ≤ 1 + E by grind)
    grind
  · have g1 := Rat.mul_le_mul_of_nonneg_left e2 s0
    have g2 := Rat.mul_le_mul_of_nonneg_right k2 (show 0 ≤ 1 + E by grind)
    grind
end
end Go.Proofs.Ytfkblhlkeglilaa

namespace Go.Proofs.Ytfkblhlkeglilaa
structure R3 where
  x : Rat
  y : Rat
  z : Rat
namespace R3
def add (v w : R3) : R3 := ⟨v.x + w.x, v.y + w.y, v.z + w.z⟩
def sub (v w : R3) : R3 := ⟨v.x - w.x, v.y - w.y, v.z - w.z⟩
def sm (k : Rat) (v : R3) : R3 := ⟨k * v.x, k * v.y, k * v.z⟩
def dot (v w : R3) : Rat := v.x * w.x + v.y * w.y + v.z * w.z
def cr (v w : R3) : R3 := ⟨v.y * w.z - v.z * w.y, v.z * w.x - v.x * w.z, v.x * w.y - v.y * w.x⟩
def zero : R3 := ⟨0, 0, 0⟩
end R3
open R3
theorem R3.ext' {v w : R3} (h1 : v.x = w.x) (h2 : v.y = w.y) (h3 : v.z = w.z) : v = w := by cases v; cases w; simp_all
/-- v is not longer than B. -/
def nb (v : R3) (B : Rat) : Prop := 0 ≤ B ∧ v.dot v ≤ B * B
theorem dot_nn (v : R3) : 0 ≤ v.dot v := by
  have h1 := sq_nn v.x
  have h2 := sq_nn v.y
  have h3 := sq_nn v.z
  unfold R3.dot; grind
theorem lagrange (v w : R3) : v.dot v * w.dot w - v.dot w * v.dot w = (v.cr w).dot (v.cr w) := by
  unfold R3.dot R3.cr; grind
theorem cauchy (v w : R3) : v.dot w * v.dot w ≤ v.dot v * w.dot w := by
  have h1 := lagrange v w
  have h2 := dot_nn (v.cr w)
  grind
section
variable {v w : R3} {A B k K : Rat}
theorem nb.nn (h : nb v A) : 0 ≤ A := h.1
theorem nb.mono (h : nb v A) (hAB : A ≤ B) : nb v B := ⟨Rat.le_trans h.1 hAB, Rat.le_trans h.2 (rsq_mono h.1 hAB)⟩
theorem dot_le (h : nb v A) (g : nb w B) : Rg (v.dot w) (A * B) := by
  have h1 := cauchy v w
  have h2 : v.dot v * w.dot w ≤ A * A * (B * B) := by
    have a1 := Rat.mul_le_mul_of_nonneg_right h.2 (dot_nn w)
    have a2 := Rat.mul_le_mul_of_nonneg_left g.2 (sq_nn A)
    exact Rat.le_trans a1 a2
  have hAB := Rat.mul_nonneg h.1 g.1
  have h3 : v.dot w * v.dot w ≤ A * B * (A * B) := by
    have e : A * A * (B * B) = A * B * (A * B) := by grind
    rw [← e]; exact Rat.le_trans h1 h2
  constructor
  · have := rsq_le (a := -v.dot w) hAB (by grind)
    grind
  · exact rsq_le hAB h3
theorem nb.add (h : nb v A) (g : nb w B) : nb (v.add w) (A + B) := by
  have hd := (dot_le h g).2
  refine ⟨by have := h.1; have := g.1; grind, ?_⟩
  have e : (v.add w).dot (v.add w) = v.dot v + 2 * v.dot w + w.dot w := by unfold R3.dot R3.add; grind
  have h2 := h.2
  have g2 := g.2
  rw [e]; grind
theorem nb.neg (h : nb v A) : nb (v.sm (-1)) A := ⟨h.1, by
  have e : (v.sm (-1)).dot (v.sm (-1)) = v.dot v := by unfold R3.dot R3.sm; grind
  rw [e]; exact h.2⟩
theorem nb.sub (h : nb v A) (g : nb w B) : nb (v.sub w) (A + B) := by
  have e : v.sub w = v.add (w.sm (-1)) := by apply R3.ext' <;> (unfold R3.sub R3.add R3.sm; grind)
  rw [e]; exact h.add g.neg
theorem nb.sm (h : nb v A) (hk : Rg k K) : nb (v.sm k) (K * A) := by
  have hK := hk.nn
  refine ⟨Rat.mul_nonneg hK h.1, ?_⟩
  have e : (v.sm k).dot (v.sm k) = k * k * v.dot v := by unfold R3.dot R3.sm; grind
  have h1 := (rmul hk hk).2
  have h2 := Rat.mul_le_mul_of_nonneg_right h1 (dot_nn v)
  have h3 := Rat.mul_le_mul_of_nonneg_left h.2 (sq_nn K)
  rw [e]; grind
theorem nb.cr (h : nb v A) (g : nb w B) : nb (v.cr w) (A * B) := by
  refine ⟨Rat.mul_nonneg h.1 g.1, ?_⟩
  have h1 := lagrange v w
  have h2 := sq_nn (v.dot w)
  have a1 := Rat.mul_le_mul_of_nonneg_right h.2 (dot_nn w)
  have a2 := Rat.mul_le_mul_of_nonneg_left g.2 (sq_nn A)
  grind
theorem nb_zero (h : 0 ≤ A) : nb R3.zero A := ⟨h, by
  have := sq_nn A
  unfold R3.dot R3.zero; grind⟩
theorem nb.congr (h : nb v A) (e : v = w) : nb w A := e ▸ h
/-- A sum whose parts are weighed: its square is at most the product of two sums. -/
theorem wcauchy {s v : R3} {A B a β ω p : Rat} (hA : 0 ≤ A) (hB : 0 ≤ B) (h : s.dot s ≤ A * B) (ha : 0 ≤ a) (hβ : 0 ≤ β) (hω : ω * ω ≤ a * β) (hp : v.dot v ≤ p) : (s.add (v.sm ω)).dot (s.add (v.sm ω)) ≤ (A + a) * (B + β * p) := by
  have hv := dot_nn v
  have hp0 : 0 ≤ p := Rat.le_trans hv hp
  have e : (s.add (v.sm ω)).dot (s.add (v.sm ω)) = s.dot s + 2 * (ω * s.dot v) + ω * ω * v.dot v := by unfold R3.dot R3.add R3.sm; grind
  have h1 := cauchy s v
  have hab := Rat.mul_nonneg ha hβ
  have k1 : ω * ω * v.dot v ≤ a * (β * p) := by
    have b1 := Rat.mul_le_mul_of_nonneg_right hω hv
    have b2 := Rat.mul_le_mul_of_nonneg_left hp hab
    grind
  -- the mixed part
  have k2 : (ω * s.dot v) * (ω * s.dot v) ≤ (A * (β * p)) * (a * B) := by
    have b0 := sq_nn ω
    have b1 := Rat.mul_le_mul_of_nonneg_left h1 b0
    have b2 : s.dot s * v.dot v ≤ A * B * p := by
      have c1 := Rat.mul_le_mul_of_nonneg_right h hv
      have c2 := Rat.mul_le_mul_of_nonneg_left hp (Rat.mul_nonneg hA hB)
      exact Rat.le_trans c1 c2
    have b3 := Rat.mul_le_mul_of_nonneg_left b2 b0
    have b4 := Rat.mul_le_mul_of_nonneg_right hω (Rat.mul_nonneg (Rat.mul_nonneg hA hB) hp0)
    grind
  have hP : 0 ≤ A * (β * p) := Rat.mul_nonneg hA (Rat.mul_nonneg hβ hp0)
  have hQ : 0 ≤ a * B := Rat.mul_nonneg ha hB
  have k3 : 2 * (ω * s.dot v) ≤ A * (β * p) + a * B := by
    generalize ω * s.dot v = t at *
    generalize A * (β * p) = P at *
    generalize a * B = Q at *
    have hs := sq_nn (P - Q)
    have : 2 * t * (2 * t) ≤ (P + Q) * (P + Q) := by grind
    exact rsq_le (by grind) this
  rw [e]; grind
end
end Go.Proofs.Ytfkblhlkeglilaa

namespace Go.Proofs.Ytfkblhlkeglilaa
open R3
theorem dc_q2 {T k A g τ : Rat} (T0 : 0 ≤ T) (T4 : T ≤ 1) (A0 : 0 ≤ A) (k1 : -(9 / 16 * g) ≤ k) (k2 : k ≤ 9 / 16 * g) (hTg : T * g ≤ τ * g) (hA : 2 * (τ * g) ≤ A) : 2 * (2 - T) * (1 + T) * (k - A) ≤ 4 * k + 5 / 8 * A - 4 * A := by
  have e : 2 * (2 - T) * (1 + T) * (k - A) = 4 * k + (2 * T * (1 - T)) * k - 4 * A - (2 * T * (1 - T)) * A := by grind
  have c0 : 0 ≤ 2 * T * (1 - T) := Rat.mul_nonneg (by grind) (by grind)
  have c1 : 2 * T * (1 - T) ≤ 2 * T := by
    have := Rat.mul_nonneg T0 T0
    grind
  have hk : Rg k (9 / 16 * g) := ⟨by grind, by grind⟩
  have hc : Rg (2 * T * (1 - T)) (2 * T) := ⟨Rat.le_trans (by grind) c0, c1⟩
  have c2 := (rmul hc hk).2
  have c3 := Rat.mul_nonneg c0 A0
  rw [e]
  generalize 2 * T * (1 - T) * k = u at *
  generalize 2 * T * (1 - T) * A = v at *
  have c4 : 2 * T * (9 / 16 * g) ≤ 5 / 8 * A := by grind
  grind
theorem dc_q3 {T k A g : Rat} (T0 : 0 ≤ T) (T4 : T ≤ 1) (A0 : 0 ≤ A) (A1 : A ≤ 2001 / 1000 * g) (k1 : -(9 / 16 * g) ≤ k) (k2 : k ≤ 9 / 16 * g) (hg : g ≤ 1 / 1000) (hgA : g * g ≤ A) : (1 + T) * ((k - A) * (k - A)) ≤ 2 * A := by
  have b2 : Rg (k - A) (9 / 16 * g + A) := ⟨by grind, by grind⟩
  have b3 := (rmul b2 b2).2
  have gA : g * A ≤ A / 1000 := by have := Rat.mul_le_mul_of_nonneg_right hg A0; grind
  have AA : A * A ≤ A / 400 := by have := Rat.mul_le_mul_of_nonneg_right (show A ≤ 1 / 400 by grind) A0; grind
  have b4 : (9 / 16 * g + A) * (9 / 16 * g + A) ≤ A := by grind
  have b5 : (k - A) * (k - A) ≤ A := Rat.le_trans b3 b4
  have b6 := Rat.mul_le_mul_of_nonneg_left b5 (show 0 ≤ 1 + T by grind)
  have b7 := Rat.mul_le_mul_of_nonneg_right (show 1 + T ≤ 2 by grind) A0
  grind
theorem dir_core {μ t2 η δ τ g : Rat} (h : μ * μ * (1 + t2 - δ) = 1 + η) (hμ : 0 ≤ μ) (ht : 0 ≤ t2) (ht2 : t2 ≤ τ * τ) (hτ : 0 ≤ τ) (hτ2 : τ ≤ 1) (hη : Rg η (g / 2)) (hδ : Rg δ (g / 16)) (hg : g ≤ 1 / 1000) :
    2 + η + δ - 2 * μ ≤ (τ + g) * (τ + g) := by
  have g0 : 0 ≤ g := by have := hδ.nn; grind
  rcases (Rat.le_total : 2 + η + δ - 2 * μ ≤ (τ + g) * (τ + g) ∨ (τ + g) * (τ + g) ≤ 2 + η + δ - 2 * μ) with h1 | h1
  · exact h1
  by_cases hlt : 2 + η + δ - 2 * μ ≤ (τ + g) * (τ + g)
  · exact hlt
  exfalso
  obtain ⟨η1, η2⟩ := hη
  obtain ⟨δ1, δ2⟩ := hδ
  obtain ⟨m, hm⟩ : ∃ m, m = μ * μ := ⟨_, rfl⟩
  have m0 : 0 ≤ m := by rw [hm]; exact sq_nn μ
  obtain ⟨T, hT⟩ : ∃ T, T = τ * τ := ⟨_, rfl⟩
  have T0 : 0 ≤ T := by rw [hT]; exact sq_nn τ
  have T4 : T ≤ 1 := by
    have := rsq_mono hτ hτ2
    rw [hT]; grind
  have Tτ : T ≤ τ := by
    have := Rat.mul_le_mul_of_nonneg_left hτ2 hτ
    rw [hT]; grind
  rw [← hm] at h
  rw [← hT] at ht2
  -- m is near one
  have mt := Rat.mul_nonneg m0 ht
  have mt2 := Rat.mul_le_mul_of_nonneg_left ht2 m0
  have md := rg_lin (E := δ) (B := g / 16) ⟨δ1, δ2⟩ m0
  have gm : g * m ≤ m / 1000 := by have := Rat.mul_le_mul_of_nonneg_right hg m0; grind
  have m2 : m ≤ 101 / 100 := by grind
  have gm2 : g * m ≤ 101 / 100 * g := by have := Rat.mul_le_mul_of_nonneg_left m2 g0; grind
  have mT : m * T ≤ 101 / 100 * T := Rat.mul_le_mul_of_nonneg_right m2 T0
  have hm1 : 1 - 101 / 100 * T - g ≤ m := by grind
  have hm3 : m ≤ 1 + g := by grind
  -- what R is
  obtain ⟨R, hR⟩ : ∃ R, R = 2 + η + δ - (τ + g) * (τ + g) := ⟨_, rfl⟩
  obtain ⟨A, hA⟩ : ∃ A, A = 2 * (τ * g) + g * g := ⟨_, rfl⟩
  have τg := Rat.mul_nonneg hτ g0
  have gg := Rat.mul_nonneg g0 g0
  have hRA : R = 2 - T + (η + δ) - A := by rw [hR, hT, hA]; grind
  have τg2 : τ * g ≤ g := by have := Rat.mul_le_mul_of_nonneg_right hτ2 g0; grind
  have gg2 : g * g ≤ g / 1000 := by have := Rat.mul_le_mul_of_nonneg_right hg g0; grind
  have A0 : 0 ≤ A := by rw [hA]; grind
  have A1 : A ≤ 2001 / 1000 * g := by rw [hA]; grind
  have hRp : 0 ≤ R := by rw [hRA]; grind
  have hμR : 2 * μ ≤ R := by rw [hR]; grind
  have hsq : 4 * m ≤ R * R := by
    have := rsq_mono (a := 2 * μ) (by grind) hμR
    rw [hm]; grind
  have hmT : m * (1 + t2) ≤ m * (1 + T) := Rat.mul_le_mul_of_nonneg_left (by grind) m0
  have h4 : 4 * (1 + η + δ * m) ≤ R * R * (1 + T) := by
    have k1 := Rat.mul_le_mul_of_nonneg_right hsq (show 0 ≤ 1 + T by grind)
    grind
  -- the bound
  obtain ⟨k, hk⟩ : ∃ k, k = η + δ := ⟨_, rfl⟩
  have hkg : Rg k (9 / 16 * g) := by rw [hk]; constructor <;> grind
  obtain ⟨k1, k2⟩ := hkg
  have hd : δ * m ≥ δ - (101 / 100 * T + g) * (g / 16) := by
    have e : δ * m = δ - δ * (1 - m) := by grind
    have b1 : Rg (1 - m) (101 / 100 * T + g) := ⟨by grind, by grind⟩
    have b2 := (rmul (show Rg δ (g / 16) from ⟨δ1, δ2⟩) b1).2
    grind
  have hTg : T * g ≤ τ * g := by have := Rat.mul_le_mul_of_nonneg_right Tτ g0; grind
  have hTg0 := Rat.mul_nonneg T0 g0
  have hd2 : (101 / 100 * T + g) * (g / 16) ≤ A / 10 := by rw [hA]; grind
  have hRR : R * R * (1 + T) = (2 - T) * (2 - T) * (1 + T) + 2 * (2 - T) * (1 + T) * (k - A) + (1 + T) * ((k - A) * (k - A)) := by rw [hRA, ← hk]; grind
  have q1 : (2 - T) * (2 - T) * (1 + T) ≤ 4 := by
    have t2' := Rat.mul_nonneg T0 T0
    have t3 := Rat.mul_le_mul_of_nonneg_right T4 t2'
    have e : (2 - T) * (2 - T) * (1 + T) = 4 - 3 * (T * T) + T * (T * T) := by grind
    rw [e]; grind
  have q2 := dc_q2 (τ := τ) T0 T4 A0 k1 k2 hTg (by rw [hA]; grind)
  have q3 := dc_q3 T0 T4 A0 A1 k1 k2 hg (by rw [hA]; grind)
  rw [hRR] at h4
  have hfin : A ≤ 0 := by grind
  -- then g is zero, and all is exact
  have hgz : g * g ≤ 0 := by rw [hA] at hfin; grind
  have hg00 : g = 0 := by
    have : g * g = 0 := by grind
    rcases Rat.mul_eq_zero.1 this with h | h <;> exact h
  subst hg00
  have e1 : η = 0 := by grind
  have e2 : δ = 0 := by grind
  subst e1; subst e2
  apply hlt
  -- exact case
  have hAz : A = 0 := by rw [hA]; grind
  have hkz : k = 0 := by rw [hk]; grind
  have h5 : 4 ≤ R * R * (1 + T) := by rw [hRR]; grind
  have hTT : T * T ≤ 0 := by
    have e : (2 - T) * (2 - T) * (1 + T) = 4 - 3 * (T * T) + T * (T * T) := by grind
    have t2' := Rat.mul_nonneg T0 T0
    have t3 := Rat.mul_le_mul_of_nonneg_right T4 t2'
    rw [hRR, hkz, hAz] at h5
    grind
  have hTz : T = 0 := by
    have : T * T = 0 := by have := Rat.mul_nonneg T0 T0; grind
    rcases Rat.mul_eq_zero.1 this with h | h <;> exact h
  have ht2z : t2 = 0 := by grind
  have hm9 : m = 1 := by rw [ht2z] at h; grind
  have hμ1 : 1 ≤ μ := by
    rcases (Rat.le_total : 1 ≤ μ ∨ μ ≤ 1) with h | h
    · exact h
    · have := Rat.mul_le_mul_of_nonneg_left h hμ
      grind
  rw [← hT] at *
  grind
/-- What is left of v when its part along U is taken away. -/
def pj (U v : R3) : R3 := v.sub (U.sm (v.dot U))
theorem pj_dot (U v : R3) : (pj U v).dot (pj U v) = v.dot v - v.dot U * v.dot U * (2 - U.dot U) := by unfold pj R3.dot R3.sub R3.sm; grind
theorem pj_add (U v w : R3) : pj U (v.add w) = (pj U v).add (pj U w) := by apply R3.ext' <;> (unfold pj R3.dot R3.sub R3.sm R3.add; grind)
theorem pj_sm (U v : R3) (k : Rat) : pj U (v.sm k) = (pj U v).sm k := by apply R3.ext' <;> (unfold pj R3.dot R3.sub R3.sm; grind)
theorem pj_nb {U v : R3} {A : Rat} (hU : U.dot U ≤ 2) (h : nb v A) : nb (pj U v) A := by
  refine ⟨h.1, ?_⟩
  have := sq_nn (v.dot U)
  have h2 := Rat.mul_nonneg this (show 0 ≤ 2 - U.dot U by grind)
  rw [pj_dot]
  have := h.2
  grind
/-- The direction of F is near U. -/
theorem dir_near {F U : R3} {n T τ l g : Rat} (hU : Rg (U.dot U - 1) (g / 16)) (hP : nb (pj U F) T) (ha : n ≤ F.dot U) (hn : 0 < n) (hT : T ≤ τ * n) (hτ : 0 ≤ τ) (hτ2 : τ ≤ 1) (hl : 0 ≤ l) (hw : Rg ((F.sm l).dot (F.sm l) - 1) (g / 2)) (hg : g ≤ 1 / 1000) : nb ((F.sm l).sub U) (τ + g) := by
  have g0 : 0 ≤ g := by have := hw.nn; grind
  refine ⟨by grind, ?_⟩
  obtain ⟨a, hA⟩ : ∃ a, a = F.dot U := ⟨_, rfl⟩
  obtain ⟨δ, hδ⟩ : ∃ δ, δ = U.dot U - 1 := ⟨_, rfl⟩
  obtain ⟨η, hη⟩ : ∃ η, η = (F.sm l).dot (F.sm l) - 1 := ⟨_, rfl⟩
  obtain ⟨P, hPd⟩ : ∃ P, P = (pj U F).dot (pj U F) := ⟨_, rfl⟩
  rw [← hδ] at hU
  rw [← hη] at hw
  rw [← hA] at ha
  have a0 : 0 < a := by grind
  have hP2 := hP.2
  rw [← hPd] at hP2
  have hP0 : 0 ≤ P := by rw [hPd]; exact dot_nn _
  obtain ⟨t2, ht2⟩ : ∃ t2, t2 * (a * a) = P := ⟨P / (a * a), by rw [Rat.div_mul_cancel]; intro h; rcases Rat.mul_eq_zero.1 h with h | h <;> (rw [h] at a0; exact absurd a0 (by decide))⟩
  have haa := Rat.mul_pos a0 a0
  have t0 : 0 ≤ t2 := Rat.le_of_mul_le_mul_right (c := a * a) (by rw [Rat.zero_mul, ht2]; exact hP0) haa
  have t1 : t2 ≤ τ * τ := by
    refine Rat.le_of_mul_le_mul_right (c := a * a) ?_ haa
    rw [ht2]
    have h1 : T ≤ τ * a := Rat.le_trans hT (Rat.mul_le_mul_of_nonneg_left ha hτ)
    have h2 := rsq_mono hP.1 h1
    have e : τ * a * (τ * a) = τ * τ * (a * a) := by grind
    rw [← e]; exact Rat.le_trans hP2 h2
  have eF : F.dot F = a * a * (1 - δ) + P := by
    have := pj_dot U F
    rw [← hPd, ← hA] at this
    rw [hδ]; grind
  have e1 : l * a * (l * a) * (1 + t2 - δ) = 1 + η := by
    have e2 : (F.sm l).dot (F.sm l) = l * l * F.dot F := by unfold R3.dot R3.sm; grind
    rw [e2, eF, ← ht2] at hη
    rw [hη]; grind
  have e3 : ((F.sm l).sub U).dot ((F.sm l).sub U) = 2 + η + δ - 2 * (l * a) := by
    rw [hη, hδ, hA]; unfold R3.dot R3.sub R3.sm; grind
  rw [e3]
  exact dir_core e1 (Rat.mul_nonneg hl (Rat.le_of_lt a0)) t0 t1 hτ hτ2 hw hU hg
end Go.Proofs.Ytfkblhlkeglilaa

namespace Go.Proofs.Ytfkblhlkeglilaa
open Go.RowKit R3
set_option maxRecDepth 20000
attribute [local irreducible] D9 D7 UU WW W9
theorem ab_rg {p B : Rat} (h : ab p ≤ B) : Rg p B := (rg_ab p).mono h
theorem ab_add (p q : Rat) : ab (p + q) ≤ ab p + ab q := ab_le ((rg_ab p).add (rg_ab q))
theorem ab_sq (p : Rat) : ab p * ab p = p * p := by rcases ab_of p with ⟨h, _⟩ | ⟨h, _⟩ <;> rw [h] <;> grind
section
variable {x y : Nat} {p q v w z : Rat} {r s : V3} {a b c d : Rat}
/-- A product of two differences. -/
theorem pr_rel (hx : qv x p) (hy : qv y q) (h1 : Rg (p - v) (u24 * ab v + tn)) (h2 : Rg (q - w) (u24 * ab w + tn)) (hv : ab v ≤ 16) (hw : ab w ≤ 16) : ∃ z, qv (fop .mul .f32 x y) z ∧ Rg (z - v * w) (3001 / 1000 * u24 * (ab v * ab w) + 40 * tn) := by
  have hu : u24 = 1 / 16777216 := rfl
  have ht : tn ≤ 1 / 1000000000000 := by decide +kernel
  have ht0 := tn_0
  have v0 := ab_nn v
  have w0 := ab_nn w
  have vw0 := Rat.mul_nonneg v0 w0
  have tv := Rat.mul_le_mul_of_nonneg_left hv ht0
  have tw := Rat.mul_le_mul_of_nonneg_left hw ht0
  have tv0 := Rat.mul_nonneg ht0 v0
  have tw0 := Rat.mul_nonneg ht0 w0
  have tt := Rat.mul_le_mul_of_nonneg_left ht ht0
  have vw9 : ab v * ab w ≤ 256 := by
    have := Rat.mul_le_mul_of_nonneg_right hv w0
    grind
  have e : p * q - v * w = (p - v) * w + v * (q - w) + (p - v) * (q - w) := by grind
  have k := ((rmul h1 (rg_ab w)).add (rmul (rg_ab v) h2)).add (rmul h1 h2)
  rw [← e] at k
  have k2 : Rg (p * q - v * w) (2000001 / 1000000 * u24 * (ab v * ab w) + 34 * tn) := k.mono (by rw [hu]; grind)
  have k3 : ab (p * q) ≤ ab v * ab w + (2000001 / 1000000 * u24 * (ab v * ab w) + 34 * tn) := by
    have h3 := ab_add (v * w) (p * q - v * w)
    have e2 : v * w + (p * q - v * w) = p * q := by grind
    have h4 := ab_le k2
    rw [e2, ab_mul v w] at h3
    clear k k2 h1 h2 e e2
    grind
  obtain ⟨z, z1, z2⟩ := rl_mul hx hy (ab_rg (Rat.le_trans k3 (by rw [hu]; grind)))
  refine ⟨z, z1, ?_⟩
  have e3 : z - v * w = (z - p * q) + (p * q - v * w) := by grind
  rw [e3]
  refine (z2.add k2).mono ?_
  have := Rat.mul_le_mul_of_nonneg_left k3 u24_0
  rw [hu] at this ⊢
  grind
/-- A sum or a difference of two numbers that are known nearly. -/
theorem ad_rel {E F A B T : Rat} (hx : qv x p) (hy : qv y q) (h1 : Rg (p - v) E) (h2 : Rg (q - w) F) (hv : ab v ≤ A) (hw : ab w ≤ B) (hA : A + B + E + F ≤ 1000000) (hT : E + F + u24 * (A + B + E + F) + tn ≤ T) : ∃ z, qv (fop .add .f32 x y) z ∧ Rg (z - (v + w)) T := by
  have e : p + q - (v + w) = (p - v) + (q - w) := by grind
  have k := h1.add h2
  rw [← e] at k
  have k3 : ab (p + q) ≤ A + B + E + F := by
    have h3 := ab_add (v + w) (p + q - (v + w))
    have e2 : v + w + (p + q - (v + w)) = p + q := by grind
    rw [e2] at h3
    have h4 := ab_add v w
    have h5 := ab_le k
    grind
  obtain ⟨z, z1, z2⟩ := rl_add hx hy (ab_rg (Rat.le_trans k3 (by grind)))
  refine ⟨z, z1, ?_⟩
  have e3 : z - (v + w) = (z - (p + q)) + (p + q - (v + w)) := by grind
  rw [e3]
  refine (z2.add k).mono ?_
  have := Rat.mul_le_mul_of_nonneg_left k3 u24_0
  grind
theorem sb_rel {E F A B T : Rat} (hx : qv x p) (hy : qv y q) (h1 : Rg (p - v) E) (h2 : Rg (q - w) F) (hv : ab v ≤ A) (hw : ab w ≤ B) (hA : A + B + E + F ≤ 1000000) (hT : E + F + u24 * (A + B + E + F) + tn ≤ T) : ∃ z, qv (fop .sub .f32 x y) z ∧ Rg (z - (v - w)) T := by
  have e : p - q - (v - w) = (p - v) - (q - w) := by grind
  have k := h1.sub h2
  rw [← e] at k
  have k3 : ab (p - q) ≤ A + B + E + F := by
    have h3 := ab_add (v - w) (p - q - (v - w))
    have e2 : v - w + (p - q - (v - w)) = p - q := by grind
    rw [e2] at h3
    have h4 : ab (v - w) ≤ A + B := by
      have := ab_le ((rg_ab v).sub (rg_ab w))
      grind
    have h5 := ab_le k
    grind
  obtain ⟨z, z1, z2⟩ := rl_sub hx hy (ab_rg (Rat.le_trans k3 (by grind)))
  refine ⟨z, z1, ?_⟩
  have e3 : z - (v - w) = (z - (p - q)) + (p - q - (v - w)) := by grind
  rw [e3]
  refine (z2.add k).mono ?_
  have := Rat.mul_le_mul_of_nonneg_left k3 u24_0
  grind
/-- What a difference of two places is, nearly. -/
structure Df (r : V3) (v : R3) : Prop where
  h : ∃ a b c, qv3 r a b c ∧ Rg (a - v.x) (u24 * ab v.x + tn) ∧ Rg (b - v.y) (u24 * ab v.y + tn) ∧ Rg (c - v.z) (u24 * ab v.z + tn)
  x9 : ab v.x ≤ 16
  y9 : ab v.y ≤ 16
  z9 : ab v.z ≤ 16
def ga (v w : R3) : Rat := ab v.x * ab w.x + ab v.y * ab w.y + ab v.z * ab w.z
theorem p16 (h1 : ab v ≤ 16) (h2 : ab w ≤ 16) : ab v * ab w ≤ 256 := by
  have := Rat.mul_le_mul_of_nonneg_right h1 (ab_nn w)
  grind
theorem inner_rel {v w : R3} (hr : Df r v) (hs : Df s w) : ∃ t, qv (inner3 r s) t ∧ Rg (t - v.dot w) (5002 / 1000 * u24 * ga v w + 200 * tn) := by
  obtain ⟨a1, a2, a3, ha, b1, b2, b3⟩ := hr.h
  obtain ⟨c1, c2, c3, hc, d1, d2, d3⟩ := hs.h
  obtain ⟨z1, e1, f1⟩ := pr_rel ha.x hc.x b1 d1 hr.x9 hs.x9
  obtain ⟨z2, e2, f2⟩ := pr_rel ha.y hc.y b2 d2 hr.y9 hs.y9
  obtain ⟨z3, e3, f3⟩ := pr_rel ha.z hc.z b3 d3 hr.z9 hs.z9
  have hu : u24 = 1 / 16777216 := rfl
  have ht : tn ≤ 1 / 1000000000000 := by decide +kernel
  have ht0 := tn_0
  have m1 := Rat.mul_nonneg (ab_nn v.x) (ab_nn w.x)
  have m2 := Rat.mul_nonneg (ab_nn v.y) (ab_nn w.y)
  have m3 := Rat.mul_nonneg (ab_nn v.z) (ab_nn w.z)
  have g1 := p16 hr.x9 hs.x9
  have g2 := p16 hr.y9 hs.y9
  have g3 := p16 hr.z9 hs.z9
  have i1 : ab (v.x * w.x) = ab v.x * ab w.x := ab_mul _ _
  have i2 : ab (v.y * w.y) = ab v.y * ab w.y := ab_mul _ _
  have i3 : ab (v.z * w.z) = ab v.z * ab w.z := ab_mul _ _
  generalize hA1 : ab v.x * ab w.x = A1 at *
  generalize hA2 : ab v.y * ab w.y = A2 at *
  generalize hA3 : ab v.z * ab w.z = A3 at *
  have hi12 := ab_add (v.x * w.x) (v.y * w.y)
  rw [i1, i2] at hi12
  obtain ⟨z4, e4, f4⟩ := ad_rel (A := A1) (B := A2) (T := 40011 / 10000 * u24 * (A1 + A2) + 82 * tn) e1 e2 f1 f2 (by rw [i1]; exact Rat.le_refl) (by rw [i2]; exact Rat.le_refl) (by rw [hu]; grind) (by rw [hu]; grind)
  obtain ⟨z5, e5, f5⟩ := ad_rel (A := A1 + A2) (B := A3) (T := 5002 / 1000 * u24 * (A1 + A2 + A3) + 200 * tn) e4 e3 f4 f3 hi12 (by rw [i3]; exact Rat.le_refl) (by rw [hu]; grind) (by rw [hu]; grind)
  refine ⟨z5, e5, ?_⟩
  unfold ga R3.dot
  rw [hA1, hA2, hA3]
  exact f5
/-- A number of the product of two ways. -/
theorem cr_rel {x' y' : Nat} {v' w' p' q' : Rat} (hx : qv x p) (hy : qv y q) (h1 : Rg (p - v) (u24 * ab v + tn)) (h2 : Rg (q - w) (u24 * ab w + tn)) (hx' : qv x' p') (hy' : qv y' q') (h3 : Rg (p' - v') (u24 * ab v' + tn)) (h4 : Rg (q' - w') (u24 * ab w' + tn)) (hv : ab v ≤ 16) (hw : ab w ≤ 16) (hv' : ab v' ≤ 16) (hw' : ab w' ≤ 16) :
    ∃ z, qv (fop .sub .f32 (fop .mul .f32 x y) (fop .mul .f32 x' y')) z ∧ Rg (z - (v * w - v' * w')) (4002 / 1000 * u24 * (ab v * ab w + ab v' * ab w') + 100 * tn) := by
  obtain ⟨z1, e1, f1⟩ := pr_rel hx hy h1 h2 hv hw
  obtain ⟨z2, e2, f2⟩ := pr_rel hx' hy' h3 h4 hv' hw'
  have hu : u24 = 1 / 16777216 := rfl
  have ht : tn ≤ 1 / 1000000000000 := by decide +kernel
  have ht0 := tn_0
  have m1 := Rat.mul_nonneg (ab_nn v) (ab_nn w)
  have m2 := Rat.mul_nonneg (ab_nn v') (ab_nn w')
  have g1 := p16 hv hw
  have g2 := p16 hv' hw'
  have i1 := ab_mul v w
  have i2 := ab_mul v' w'
  generalize hA1 : ab v * ab w = A1 at *
  generalize hA2 : ab v' * ab w' = A2 at *
  exact sb_rel (A := A1) (B := A2) e1 e2 f1 f2 (by rw [i1]; exact Rat.le_refl) (by rw [i2]; exact Rat.le_refl) (by rw [hu]; grind) (by rw [hu]; grind)
/-- A number of the product, its square. -/
theorem cr_sq {A B C D : Rat} (h : Rg z (4002 / 1000 * u24 * (A * B + C * D) + 100 * tn)) (a0 : 0 ≤ A) (b0 : 0 ≤ B) (c0 : 0 ≤ C) (d0 : 0 ≤ D) (a9 : A * B ≤ 256) (c9 : C * D ≤ 256) : z * z ≤ 4002 / 1000 * u24 * (4002 / 1000 * u24) * ((A * A + C * C) * (B * B + D * D)) + tn := by
  have h1 := (rmul h h).2
  have k := sq_nn (A * D - B * C)
  have e : (A * B + C * D) * (A * B + C * D) = (A * A + C * C) * (B * B + D * D) - (A * D - B * C) * (A * D - B * C) := by grind
  have ht : tn ≤ 1 / 1000000000000 := by decide +kernel
  have ht0 := tn_0
  have tt := Rat.mul_le_mul_of_nonneg_left ht ht0
  have g0 := Rat.mul_nonneg a0 b0
  have g1 := Rat.mul_nonneg c0 d0
  obtain ⟨g, hg⟩ : ∃ g, g = A * B + C * D := ⟨_, rfl⟩
  rw [← hg] at h1 e
  have tg : tn * g ≤ tn * 512 := Rat.mul_le_mul_of_nonneg_left (by grind) ht0
  have hu : u24 = 1 / 16777216 := rfl
  rw [hu] at h1 ⊢
  generalize (A * A + C * C) * (B * B + D * D) = M at *
  grind
theorem cross_rel {v w : R3} (hr : Df r v) (hs : Df s w) : ∃ c : R3, qv3 (cross3 r s) c.x c.y c.z ∧ (c.sub (v.cr w)).dot (c.sub (v.cr w)) ≤ 3204 / 100 * u24 * u24 * (v.dot v * w.dot w) + 3 * tn := by
  obtain ⟨a1, a2, a3, ha, b1, b2, b3⟩ := hr.h
  obtain ⟨c1, c2, c3, hc, d1, d2, d3⟩ := hs.h
  obtain ⟨x, g1, f1⟩ := cr_rel ha.y hc.z b2 d3 ha.z hc.y b3 d2 hr.y9 hs.z9 hr.z9 hs.y9
  obtain ⟨y, g2, f2⟩ := cr_rel ha.z hc.x b3 d1 ha.x hc.z b1 d3 hr.z9 hs.x9 hr.x9 hs.z9
  obtain ⟨z, g3, f3⟩ := cr_rel ha.x hc.y b1 d2 ha.y hc.x b2 d1 hr.x9 hs.y9 hr.y9 hs.x9
  refine ⟨⟨x, y, z⟩, ⟨g1, g2, g3⟩, ?_⟩
  have k1 := cr_sq f1 (ab_nn _) (ab_nn _) (ab_nn _) (ab_nn _) (p16 hr.y9 hs.z9) (p16 hr.z9 hs.y9)
  have k2 := cr_sq f2 (ab_nn _) (ab_nn _) (ab_nn _) (ab_nn _) (p16 hr.z9 hs.x9) (p16 hr.x9 hs.z9)
  have k3 := cr_sq f3 (ab_nn _) (ab_nn _) (ab_nn _) (ab_nn _) (p16 hr.x9 hs.y9) (p16 hr.y9 hs.x9)
  simp only [ab_sq] at k1 k2 k3
  have n1 := Rat.mul_nonneg (sq_nn v.x) (sq_nn w.x)
  have n2 := Rat.mul_nonneg (sq_nn v.y) (sq_nn w.y)
  have n3 := Rat.mul_nonneg (sq_nn v.z) (sq_nn w.z)
  have n12 := Rat.mul_nonneg (sq_nn v.x) (sq_nn w.y)
  have n13 := Rat.mul_nonneg (sq_nn v.x) (sq_nn w.z)
  have n21 := Rat.mul_nonneg (sq_nn v.y) (sq_nn w.x)
  have n23 := Rat.mul_nonneg (sq_nn v.y) (sq_nn w.z)
  have n31 := Rat.mul_nonneg (sq_nn v.z) (sq_nn w.x)
  have n32 := Rat.mul_nonneg (sq_nn v.z) (sq_nn w.y)
  have hu : u24 = 1 / 16777216 := rfl
  have ht0 := tn_0
  have e : (R3.sub ⟨x, y, z⟩ (v.cr w)).dot (R3.sub ⟨x, y, z⟩ (v.cr w)) = (x - (v.y * w.z - v.z * w.y)) * (x - (v.y * w.z - v.z * w.y)) + (y - (v.z * w.x - v.x * w.z)) * (y - (v.z * w.x - v.x * w.z)) + (z - (v.x * w.y - v.y * w.x)) * (z - (v.x * w.y - v.y * w.x)) := rfl
  rw [e]
  generalize (x - (v.y * w.z - v.z * w.y)) * (x - (v.y * w.z - v.z * w.y)) = q1 at *
  generalize (y - (v.z * w.x - v.x * w.z)) * (y - (v.z * w.x - v.x * w.z)) = q2 at *
  generalize (z - (v.x * w.y - v.y * w.x)) * (z - (v.x * w.y - v.y * w.x)) = q3 at *
  unfold R3.dot
  rw [hu] at k1 k2 k3 ⊢
  generalize v.x * v.x = X at *
  generalize v.y * v.y = Y at *
  generalize v.z * v.z = Z at *
  generalize w.x * w.x = X' at *
  generalize w.y * w.y = Y' at *
  generalize w.z * w.z = Z' at *
  grind
end
end Go.Proofs.Ytfkblhlkeglilaa

namespace Go.Proofs.Ytfkblhlkeglilaa
open Go.RowKit R3
set_option maxRecDepth 20000
attribute [local irreducible] D9 D7 UU WW W9
theorem ab_pos {p : Rat} (h : 0 ≤ p) : ab p = p := by unfold ab; rw [if_pos h]
section
variable {r s : V3} {v w : R3}
theorem ga_self (v : R3) : ga v v = v.dot v := by unfold ga R3.dot; rw [ab_sq, ab_sq, ab_sq]
theorem ga_nn (v w : R3) : 0 ≤ ga v w := by
  have h1 := Rat.mul_nonneg (ab_nn v.x) (ab_nn w.x)
  have h2 := Rat.mul_nonneg (ab_nn v.y) (ab_nn w.y)
  have h3 := Rat.mul_nonneg (ab_nn v.z) (ab_nn w.z)
  unfold ga; grind
theorem ga_le (v w : R3) : ga v w * ga v w ≤ v.dot v * w.dot w := by
  have h := cauchy ⟨ab v.x, ab v.y, ab v.z⟩ ⟨ab w.x, ab w.y, ab w.z⟩
  have e1 : R3.dot ⟨ab v.x, ab v.y, ab v.z⟩ ⟨ab w.x, ab w.y, ab w.z⟩ = ga v w := rfl
  have e2 : R3.dot ⟨ab v.x, ab v.y, ab v.z⟩ ⟨ab v.x, ab v.y, ab v.z⟩ = ga v v := rfl
  have e3 : R3.dot ⟨ab w.x, ab w.y, ab w.z⟩ ⟨ab w.x, ab w.y, ab w.z⟩ = ga w w := rfl
  rw [e1, e2, e3, ga_self, ga_self] at h
  exact h
theorem long_rel (hr : Df r v) (h0 : 1 / 1000 ≤ v.dot v) (h9 : v.dot v ≤ 250) : ∃ x, qv (long3 r) x ∧ 0 < x ∧ Rg (x * x - v.dot v) (7011 / 1000 * u24 * v.dot v) := by
  obtain ⟨t, t1, t2⟩ := inner_rel hr hr
  rw [ga_self] at t2
  generalize v.dot v = R at *
  have hu : u24 = 1 / 16777216 := rfl
  have ht : 200 * tn ≤ 1 / 1000000000000000000 := by decide +kernel
  have t3 : Rg (t - R) (5003 / 1000 * u24 * R) := t2.mono (by rw [hu]; grind)
  obtain ⟨t4, t5⟩ := t3
  obtain ⟨x, x1, x2, x3, x4⟩ := rl_root (K := 16) (k := 4) rfl (by decide) (c := 3 / 100) (ρ := 1 / 1000000000000) (E := 2001 / 1000 * u24) t1 (by decide +kernel) (by rw [hu] at t4; grind) (by rw [hu] at t5; grind) (by decide +kernel) (by decide +kernel) (by decide +kernel) (by decide +kernel) (by decide +kernel)
  refine ⟨x, x1, x2, ?_⟩
  rw [hu] at x3 x4 t4 t5 ⊢
  clear t1 t2 x1 hr
  generalize x * x = X at *
  constructor <;> grind
end
/-- How far the square of the edge's length may be off. -/
theorem seg_L {x y R S G T T0 W : Rat} (x0 : 0 < x) (y0 : 0 < y) (hR : 1 / 1000 ≤ R) (hS : 1 / 1000 ≤ S) (hx : Rg (x * x - R) (7011 / 1000 * u24 * R)) (hy : Rg (y * y - S) (7011 / 1000 * u24 * S)) (hG : G * G ≤ R * S) (hT : Rg (T - T0) (5002 / 1000 * u24 * G + 200 * tn)) (hW : Rg (W - x * y) (u24 * (x * y) + tn)) :
    Rg ((x + y) * (x + y) - 2 * (W + T) - (R + S - 2 * T0)) (76 / 10 * u24 * ((x + y) * (x + y))) := by
  have hu : u24 = 1 / 16777216 := rfl
  have ht : 500 * tn ≤ 1 / 1000000000000000000 := by decide +kernel
  have xy0 := Rat.mul_pos x0 y0
  have hGx : G ≤ x * y * (1 + 8 * u24) := by
    refine rsq_le (Rat.mul_nonneg (Rat.le_of_lt xy0) (by decide +kernel)) ?_
    have k1 : R * (1 - 7011 / 1000 * u24) ≤ x * x := by obtain ⟨h, _⟩ := hx; grind
    have k2 : S * (1 - 7011 / 1000 * u24) ≤ y * y := by obtain ⟨h, _⟩ := hy; grind
    have c0 : 0 ≤ 1 - 7011 / 1000 * u24 := by decide +kernel
    have k3 := Rat.mul_le_mul_of_nonneg_left k2 (Rat.mul_nonneg (show 0 ≤ R by grind) c0)
    have k4 := Rat.mul_le_mul_of_nonneg_right k1 (Rat.mul_nonneg (Rat.le_of_lt y0) (Rat.le_of_lt y0))
    have k5 : R * S * ((1 - 7011 / 1000 * u24) * (1 - 7011 / 1000 * u24)) ≤ x * y * (x * y) := by grind
    have RS0 : 0 ≤ R * S := Rat.mul_nonneg (by grind) (by grind)
    have c1 : 1 ≤ (1 - 7011 / 1000 * u24) * (1 - 7011 / 1000 * u24) * ((1 + 8 * u24) * (1 + 8 * u24)) := by decide +kernel
    have k6 := Rat.mul_le_mul_of_nonneg_left c1 RS0
    have k7 := Rat.mul_le_mul_of_nonneg_right k5 (show 0 ≤ (1 + 8 * u24) * (1 + 8 * u24) by decide +kernel)
    grind
  have xx : 9 / 10000 ≤ x * x := by obtain ⟨h, _⟩ := hx; rw [hu] at h; grind
  have yy0 : 0 < y * y := Rat.mul_pos y0 y0
  obtain ⟨a1, a2⟩ := hx
  obtain ⟨b1, b2⟩ := hy
  obtain ⟨c1, c2⟩ := hT
  obtain ⟨d1, d2⟩ := hW
  have e : (x + y) * (x + y) = x * x + 2 * (x * y) + y * y := by grind
  rw [e]
  rw [hu] at *
  clear hG e
  generalize x * x = X at *
  generalize y * y = Y at *
  generalize x * y = Z at *
  constructor <;> grind
/-- The quotient. -/
theorem seg_D {P K H W D h N : Rat} (hP : 9 / 10000 ≤ P) (P9 : P ≤ 300) (hK : 1 / 2000 ≤ K) (K9 : K ≤ 1000) (hW : Rg (W - P) (u24 * P + tn)) (hH : Rg (H - K) (u24 * K + tn)) (hD : Rg (D - W * H) (u24 * ab (W * H) + tn)) (h0 : 1 / 100 ≤ h) (h9 : h ≤ 100) (hN : Rg (N - h) (u24 * h + tn)) :
    1 / 10000000 ≤ D ∧ D ≤ 1000000 ∧ 0 ≤ N ∧ N ≤ 1000 ∧ Rg (D - P * K) (301 / 100 * u24 * (P * K)) ∧ ∀ q, Rg (q * D - N) (2 * u24 * ab N + tn * D) → 0 ≤ q ∧ q ≤ 100000000000 ∧ Rg (q * (P * (2 * K)) - 2 * h) (62 / 10 * u24 * (2 * h)) := by
  have hu : u24 = 1 / 16777216 := rfl
  have ht : tn ≤ 1 / 1000000000000000000000 := by decide +kernel
  have ht0 := tn_0
  have PK0 : 9 / 20000000 ≤ P * K := by
    have k1 := Rat.mul_le_mul_of_nonneg_right hP (show 0 ≤ K by grind)
    grind
  have PK9 : P * K ≤ 300000 := by
    have k1 := Rat.mul_le_mul_of_nonneg_right P9 (show 0 ≤ K by grind)
    grind
  have hW2 : Rg (W - P) (10001 / 10000 * u24 * P) := hW.mono (by rw [hu]; grind)
  have hH2 : Rg (H - K) (10001 / 10000 * u24 * K) := hH.mono (by rw [hu]; grind)
  have hWH : Rg (W * H - P * K) (20003 / 10000 * u24 * (P * K)) := by
    have e : W * H - P * K = (W - P) * K + P * (H - K) + (W - P) * (H - K) := by grind
    have rK : Rg K K := ⟨by grind, Rat.le_refl⟩
    have rP : Rg P P := ⟨by grind, Rat.le_refl⟩
    rw [e]
    refine (((rmul hW2 rK).add (rmul rP hH2)).add (rmul hW2 hH2)).mono ?_
    have e2 : 10001 / 10000 * u24 * P * (10001 / 10000 * u24 * K) = 10001 / 10000 * u24 * (10001 / 10000 * u24) * (P * K) := by grind
    rw [e2]
    rw [hu]; grind
  have hab : ab (W * H) = W * H := ab_pos (by obtain ⟨h1, _⟩ := hWH; rw [hu] at h1; grind)
  rw [hab] at hD
  have hD2 : Rg (D - P * K) (301 / 100 * u24 * (P * K)) := by
    obtain ⟨a1, a2⟩ := hWH
    obtain ⟨b1, b2⟩ := hD
    rw [hu] at *
    constructor <;> grind
  have hN2 : Rg (N - h) (10001 / 10000 * u24 * h) := hN.mono (by rw [hu]; grind)
  have N0 : 0 ≤ N := by obtain ⟨a1, _⟩ := hN2; rw [hu] at a1; grind
  have N9 : N ≤ 1000 := by obtain ⟨_, a1⟩ := hN2; rw [hu] at a1; grind
  have D0 : 1 / 10000000 ≤ D := by obtain ⟨a1, _⟩ := hD2; rw [hu] at a1; grind
  have D9 : D ≤ 1000000 := by obtain ⟨_, a1⟩ := hD2; rw [hu] at a1; grind
  refine ⟨D0, D9, N0, N9, hD2, fun q hq => ?_⟩
  rw [ab_pos N0] at hq
  have tD := Rat.mul_le_mul_of_nonneg_right ht (show 0 ≤ D by grind)
  obtain ⟨a1, a2⟩ := hq
  obtain ⟨b1, b2⟩ := hN2
  have k1 : h * (1 - 302 / 100 * u24) ≤ q * D := by rw [hu] at *; grind
  have k2 : q * D ≤ h * (1 + 302 / 100 * u24) := by rw [hu] at *; grind
  have q0 : 0 ≤ q := Rat.le_of_mul_le_mul_right (c := D) (by rw [hu] at k1; grind) (by grind)
  have qD0 := Rat.mul_le_mul_of_nonneg_left D0 q0
  obtain ⟨c1, c2⟩ := hD2
  have k3 := Rat.mul_le_mul_of_nonneg_left c1 q0
  have k4 := Rat.mul_le_mul_of_nonneg_left c2 q0
  have e3 : q * (P * (2 * K)) = 2 * (q * (P * K)) := by grind
  have e4 : q * (D - P * K) = q * D - q * (P * K) := by grind
  have e5 : q * (301 / 100 * u24 * (P * K)) = 301 / 100 * u24 * (q * (P * K)) := by grind
  have e6 : q * -(301 / 100 * u24 * (P * K)) = -(301 / 100 * u24 * (q * (P * K))) := by grind
  rw [e4, e5] at k4
  rw [e4, e6] at k3
  rw [e3]
  refine ⟨q0, by rw [hu] at k2; grind, ?_⟩
  rw [hu] at *
  constructor <;> grind
end Go.Proofs.Ytfkblhlkeglilaa

namespace Go.Proofs.Ytfkblhlkeglilaa
open Go.RowKit R3
set_option maxRecDepth 20000
attribute [local irreducible] D9 D7 UU WW W9
theorem qv_fin2 {x : Nat} {p : Rat} (h : qv x p) : fin x = true := by
  obtain ⟨Z, hZ, e1⟩ := qv_sub_eq h h
  obtain ⟨O, hO, e2⟩ := qv_zero
  rw [Rat.zero_mul] at e1 e2
  have e3 : Z = O := Rat.intCast_inj.1 (e1.trans e2.symm)
  unfold fin
  show (FloatKind.f32.format.order _ 0 == some .eq) = true
  rw [qv_cmp hZ hO, e3, compare_eq.2 rfl]; rfl
theorem qv_inj {x : Nat} {p q : Rat} (h : qv x p) (g : qv x q) : p = q := by
  obtain ⟨X, hX, e1⟩ := h
  obtain ⟨Y, hY, e2⟩ := g
  have e : X = Y := hX.2.2.symm.trans hY.2.2
  subst e
  have e3 := e1.symm.trans e2
  have hW := WW_pos
  exact Rat.le_antisymm (Rat.le_of_mul_le_mul_right (by rw [e3]; exact Rat.le_refl) hW) (Rat.le_of_mul_le_mul_right (by rw [e3]; exact Rat.le_refl) hW)
theorem nb_x {v : R3} {B : Rat} (h : nb v B) : Rg v.x B ∧ Rg v.y B ∧ Rg v.z B := by
  obtain ⟨h0, h⟩ := h
  have h1 := sq_nn v.x
  have h2 := sq_nn v.y
  have h3 := sq_nn v.z
  unfold R3.dot at h
  have key : ∀ {a : Rat}, a * a ≤ B * B → Rg a B := fun {a} ha => ⟨by
    have := rsq_le (a := -a) h0 (by grind)
    grind, rsq_le h0 ha⟩
  exact ⟨key (by grind), key (by grind), key (by grind)⟩
/-- A way times a number, rounded. -/
theorem sm_rel {c : V3} {C : R3} {q : Nat} {ζ β : Rat} (hc : qv3 c C.x C.y C.z) (hq : qv q ζ) (h0 : 0 ≤ ζ) (h9 : ζ ≤ 100000000000) (hC : nb C β) (hβ : β ≤ 1000) : ∃ f : R3, qv3 (scale3 c q) f.x f.y f.z ∧ nb (f.sub (C.sm ζ)) (u24 * (ζ * β) + 3 * tn) := by
  obtain ⟨k1, k2, k3⟩ := nb_x hC
  have hβ0 := hC.nn
  have rζ : Rg ζ ζ := ⟨by grind, Rat.le_refl⟩
  have b9 : ζ * β ≤ 100000000000000 := by
    have a1 := Rat.mul_le_mul_of_nonneg_left hβ h0
    grind
  have key : ∀ {x : Nat} {p : Rat}, qv x p → Rg p β → ∃ z, qv (fop .mul .f32 x q) z ∧ Rg (z - ζ * p) (u24 * ab (ζ * p) + tn) ∧ ab (ζ * p) ≤ ζ * β := by
    intro x p hx hp
    have h1 := rmul rζ hp
    have e : p * ζ = ζ * p := by grind
    obtain ⟨z, z1, z2⟩ := rl_mul hx hq (by rw [e]; exact h1.mono (by grind))
    rw [e] at z2
    exact ⟨z, z1, z2, ab_le h1⟩
  obtain ⟨x, x1, x2, x3⟩ := key hc.x k1
  obtain ⟨y, y1, y2, y3⟩ := key hc.y k2
  obtain ⟨z, z1, z2, z3⟩ := key hc.z k3
  refine ⟨⟨x, y, z⟩, ⟨x1, y1, z1⟩, ?_⟩
  have b0 := Rat.mul_nonneg h0 hβ0
  have hu0 := u24_0
  have ht0 := tn_0
  have ub := Rat.mul_nonneg hu0 b0
  refine ⟨by grind, ?_⟩
  have s1 := (rmul x2 x2).2
  have s2 := (rmul y2 y2).2
  have s3 := (rmul z2 z2).2
  have hsq := (hC.sm rζ).2
  unfold R3.dot R3.sm at hsq
  have e1 := ab_sq (ζ * C.x)
  have e2 := ab_sq (ζ * C.y)
  have e3 := ab_sq (ζ * C.z)
  have q1 := ab_nn (ζ * C.x)
  have q2 := ab_nn (ζ * C.y)
  have q3 := ab_nn (ζ * C.z)
  have e : R3.dot (R3.sub ⟨x, y, z⟩ (C.sm ζ)) (R3.sub ⟨x, y, z⟩ (C.sm ζ)) = (x - ζ * C.x) * (x - ζ * C.x) + (y - ζ * C.y) * (y - ζ * C.y) + (z - ζ * C.z) * (z - ζ * C.z) := rfl
  rw [e]
  generalize (x - ζ * C.x) * (x - ζ * C.x) = X at *
  generalize (y - ζ * C.y) * (y - ζ * C.y) = Y at *
  generalize (z - ζ * C.z) * (z - ζ * C.z) = Z at *
  rw [← e1, ← e2, ← e3] at hsq
  clear e1 e2 e3 e x1 x2 y1 y2 z1 z2 k1 k2 k3 key hc hq hC
  generalize ab (ζ * C.x) = A at *
  generalize ab (ζ * C.y) = B at *
  generalize ab (ζ * C.z) = D at *
  generalize ζ * β = M at *
  have uu0 := Rat.mul_nonneg hu0 hu0
  have ut0 := Rat.mul_nonneg hu0 ht0
  have m1 := Rat.mul_le_mul_of_nonneg_left hsq uu0
  have m2 := Rat.mul_le_mul_of_nonneg_left x3 ut0
  have m3 := Rat.mul_le_mul_of_nonneg_left y3 ut0
  have m4 := Rat.mul_le_mul_of_nonneg_left z3 ut0
  have tt := Rat.mul_nonneg ht0 ht0
  generalize u24 = u at *
  generalize tn = t at *
  grind
section
variable {p a b : V3} {r s : R3}
theorem seg_rel (hr : Df (sub3 p a) r) (hs : Df (sub3 p b) s) (R0 : 1 / 1000 ≤ r.dot r) (R9 : r.dot r ≤ 250) (S0 : 1 / 1000 ≤ s.dot s) (S9 : s.dot s ≤ 250) :
    ∃ x y, 0 < x ∧ 0 < y ∧ Rg (x * x - r.dot r) (7011 / 1000 * u24 * r.dot r) ∧ Rg (y * y - s.dot s) (7011 / 1000 * u24 * s.dot s) ∧
      ((r.sub s).dot (r.sub s) + 76 / 10 * u24 * ((x + y) * (x + y)) + 1 / 1000 ≤ (x + y) * (x + y) →
        ∃ (q L : Rat) (c f : R3), qv3 (segF a b p) f.x f.y f.z ∧ 0 ≤ q ∧ q ≤ 100000000000 ∧ Rg (L - (r.sub s).dot (r.sub s)) (76 / 10 * u24 * ((x + y) * (x + y))) ∧ Rg (q * (x * y * ((x + y) * (x + y) - L)) - 2 * (x + y)) (62 / 10 * u24 * (2 * (x + y))) ∧
          nb (c.sub (r.cr s)) (57 / 10 * u24 * (x * y)) ∧ ∀ β, nb c β → β ≤ 1000 → nb (f.sub (c.sm q)) (u24 * (q * β) + 3 * tn)) := by
  obtain ⟨x, x1, x2, x3⟩ := long_rel hr R0 R9
  obtain ⟨y, y1, y2, y3⟩ := long_rel hs S0 S9
  refine ⟨x, y, x2, y2, x3, y3, fun hL => ?_⟩
  obtain ⟨c, c1, c2⟩ := cross_rel hr hs
  obtain ⟨T, t1, t2⟩ := inner_rel hr hs
  have hu : u24 = 1 / 16777216 := rfl
  have ht : tn ≤ 1 / 1000000000000000000000 := by decide +kernel
  have xx : 9 / 10000 ≤ x * x ∧ x * x ≤ 251 := by obtain ⟨h1, h2⟩ := x3; rw [hu] at h1 h2; constructor <;> grind
  have yy : 9 / 10000 ≤ y * y ∧ y * y ≤ 251 := by obtain ⟨h1, h2⟩ := y3; rw [hu] at h1 h2; constructor <;> grind
  have x9 : x ≤ 16 := rsq_le (by decide +kernel) (by grind)
  have y9 : y ≤ 16 := rsq_le (by decide +kernel) (by grind)
  have x8 : 3 / 100 ≤ x := rsq_le (Rat.le_of_lt x2) (by grind)
  have y8 : 3 / 100 ≤ y := rsq_le (Rat.le_of_lt y2) (by grind)
  have xy0 := Rat.mul_pos x2 y2
  have xy8 : 9 / 10000 ≤ x * y := by
    have := Rat.mul_le_mul_of_nonneg_left y8 (Rat.le_of_lt x2)
    grind
  have xy9 : x * y ≤ 256 := by
    have := Rat.mul_le_mul_of_nonneg_left y9 (Rat.le_of_lt x2)
    grind
  obtain ⟨W, w1, w2⟩ := rl_mul x1 y1 ⟨by grind, by grind⟩
  rw [ab_pos (Rat.le_of_lt xy0)] at w2
  have hG := ga_le r s
  have k := seg_L x2 y2 R0 S0 x3 y3 hG t2 w2
  have eL : (r.sub s).dot (r.sub s) = r.dot r + s.dot s - 2 * r.dot s := by unfold R3.dot R3.sub; grind
  rw [← eL] at k
  obtain ⟨L, hL2⟩ : ∃ L, L = (x + y) * (x + y) - 2 * (W + T) := ⟨_, rfl⟩
  rw [← hL2] at k
  obtain ⟨K, hK⟩ : ∃ K, K = W + T := ⟨_, rfl⟩
  have hK2 : (x + y) * (x + y) - L = 2 * K := by rw [hL2, hK]; grind
  have K8 : 1 / 2000 ≤ K := by obtain ⟨_, k2⟩ := k; grind
  have K9 : K ≤ 1000 := by
    have g9 : ga r s ≤ 250 := by
      refine rsq_le (by decide +kernel) (Rat.le_trans hG ?_)
      have := Rat.mul_le_mul_of_nonneg_right R9 (dot_nn s)
      grind
    have hd := cauchy r s
    have hd2 : r.dot s ≤ 250 := by
      refine rsq_le (by decide +kernel) (Rat.le_trans hd ?_)
      have := Rat.mul_le_mul_of_nonneg_right R9 (dot_nn s)
      grind
    obtain ⟨_, h1⟩ := t2
    obtain ⟨_, h2⟩ := w2
    rw [hu] at h1 h2
    rw [hK]; grind
  obtain ⟨H, h1, h2⟩ := rl_add w1 t1 (by rw [← hK]; exact ⟨by grind, by grind⟩)
  rw [← hK, ab_pos (show 0 ≤ K by grind)] at h2
  obtain ⟨N, n1, n2⟩ := rl_add x1 y1 (show Rg (x + y) _ from ⟨by grind, by grind⟩)
  rw [ab_pos (show 0 ≤ x + y by grind)] at n2
  have hWH : Rg (W * H) 1000000 := by
    have a1 : Rg W 300 := by obtain ⟨g1, g2⟩ := w2; rw [hu] at g1 g2; constructor <;> grind
    have a2 : Rg H 1001 := by obtain ⟨g1, g2⟩ := h2; rw [hu] at g1 g2; constructor <;> grind
    exact (rmul a1 a2).mono (by decide +kernel)
  obtain ⟨D, d1, d2⟩ := rl_mul w1 h1 (hWH.mono (by decide +kernel))
  obtain ⟨D8, D9, N8, N9, _, hq⟩ := seg_D xy8 (by grind) K8 K9 w2 h2 d2 (show 1 / 100 ≤ x + y by grind) (by grind) n2
  obtain ⟨q, q1, q2⟩ := rl_quo n1 d1 (show 0 < D by grind) ⟨by grind, by grind⟩
  obtain ⟨q3, q4, q5⟩ := hq q q2
  have hc : nb (c.sub (r.cr s)) (57 / 10 * u24 * (x * y)) := by
    refine ⟨Rat.mul_nonneg (by decide +kernel) (Rat.le_of_lt xy0), Rat.le_trans c2 ?_⟩
    have k1 : r.dot r * (1 - 7011 / 1000 * u24) ≤ x * x := by obtain ⟨h, _⟩ := x3; grind
    have k2 : s.dot s * (1 - 7011 / 1000 * u24) ≤ y * y := by obtain ⟨h, _⟩ := y3; grind
    have c0 : 0 ≤ 1 - 7011 / 1000 * u24 := by decide +kernel
    have k3 := Rat.mul_le_mul_of_nonneg_left k2 (Rat.mul_nonneg (show 0 ≤ r.dot r by grind) c0)
    have k4 := Rat.mul_le_mul_of_nonneg_right k1 (Rat.mul_nonneg (Rat.le_of_lt y2) (Rat.le_of_lt y2))
    have RS : 1 / 1000000 ≤ r.dot r * s.dot s := by
      have := Rat.mul_le_mul_of_nonneg_right R0 (show 0 ≤ s.dot s by grind)
      grind
    have k5 : r.dot r * s.dot s * ((1 - 7011 / 1000 * u24) * (1 - 7011 / 1000 * u24)) ≤ x * y * (x * y) := by grind
    have htt : 3 * tn ≤ 1 / 10000000000000000000000000000000000000 := by decide +kernel
    rw [hu] at *
    generalize r.dot r * s.dot s = M at *
    generalize x * y = Z at *
    grind
  refine ⟨q, L, c, ?_⟩
  have hβ : nb c 251 := by
    have b1 : nb r 16 := ⟨by decide +kernel, by grind⟩
    have b2 : nb (r.cr s) 250 := by
      refine ⟨by decide +kernel, ?_⟩
      have a1 := lagrange r s
      have a2 := sq_nn (r.dot s)
      have := Rat.mul_le_mul_of_nonneg_right R9 (show 0 ≤ s.dot s by grind)
      grind
    have b3 := hc.add b2
    have e : (c.sub (r.cr s)).add (r.cr s) = c := by apply R3.ext' <;> (unfold R3.add R3.sub; grind)
    rw [e] at b3
    exact b3.mono (by rw [hu]; grind)
  obtain ⟨f, f1, _⟩ := sm_rel c1 q1 q3 q4 hβ (by decide +kernel)
  refine ⟨f, ?_, q3, q4, k, by rw [hK2]; exact q5, hc, fun β hb h9 => ?_⟩
  · have g1 : fcmp .gtr .f32 (segD a b p) 0 = true := qv_gt d1 qv_zero (by grind)
    rw [segF_yes g1 (qv_fin2 q1)]
    exact f1
  · obtain ⟨f', f1', f2'⟩ := sm_rel c1 q1 q3 q4 hb h9
    have e1 := qv_inj f1.x f1'.x
    have e2 := qv_inj f1.y f1'.y
    have e3 := qv_inj f1.z f1'.z
    have e : f = f' := R3.ext' e1 e2 e3
    rw [e]; exact f2'
end
end Go.Proofs.Ytfkblhlkeglilaa
