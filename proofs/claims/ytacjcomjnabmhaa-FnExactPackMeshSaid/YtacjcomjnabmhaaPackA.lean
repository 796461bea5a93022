/- Packing: a number by the scale, as a whole number; the scale. -/
import Derived.Test.YtacjcomjnabmhaaExact
import Derived.Test.YtacjcomjnabmhaaFinA
namespace Go.Proofs.Ytacjcomjnabmhaa
open Go.RowKit

/-- The double x stands for a number below 2 ^ (t + 1). -/
def small (t : Int) (x : Nat) : Prop := ∃ s m e, FloatKind.f64.decode x = .number s m e ∧ e + (m.log2 : Int) ≤ t
theorem log2_lt' {m k : Nat} (h : m < 2 ^ k) (hk : 0 < k) : m.log2 < k := by
  rcases Nat.eq_zero_or_pos m with h0 | h0
  · subst h0; simpa using hk
  · exact (Nat.log2_lt (by omega)).2 h
theorem lt_log2 (m : Nat) : m < 2 ^ (m.log2 + 1) := Nat.lt_log2_self
theorem log2_mono {a b : Nat} (h : a ≤ b) : a.log2 ≤ b.log2 := by
  rcases Nat.eq_zero_or_pos a with h0 | h0
  · subst h0; simp
  · have := Nat.log2_self_le (n := a) (by omega)
    have h2 : 2 ^ a.log2 < 2 ^ (b.log2 + 1) := Nat.lt_of_le_of_lt this (Nat.lt_of_le_of_lt h (lt_log2 b))
    have := (Nat.pow_lt_pow_iff_right (a := 2) (by decide)).1 h2
    omega
theorem small_encode (s : Bool) {m : Nat} {e : Int} {t : Nat} (h : e + (m.log2 : Int) ≤ t) (ht : t ≤ 60) : small (t + 2) (FloatKind.f64.encode (.number s m e)) := by
  obtain ⟨m', e', g1, g2⟩ := encode_small s (m := m) (e := e) (t := t + 1022) (by omega) (by omega)
  exact ⟨s, m', e', g1, by omega⟩
theorem small_quo {a b : Nat} {sa sb : Bool} {m n i j : Nat} (ha : Ieee.double.read a = .number sa m (-1074 + (i : Int))) (hb : Ieee.double.read b = .number sb n (-1074 + (j : Int))) (hn : n ≠ 0) (h : i + m.log2 ≤ j + n.log2) : small 2 (fop .quo .f64 a b) := by
  have e : fop .quo .f64 a b = ((((Ieee.double.read a).quotient 54 (Ieee.double.read b)).map Ieee.double.write).getD (qn .f64)) := rfl
  rw [e, ha, hb]
  simp only [Ieee.Datum.quotient, if_neg hn, Option.map_some, Option.getD_some]
  refine small_encode (t := 0) (sa ^^ sb) ?_ (by omega)
  generalize hM : 54 + n.log2 - m.log2 = more
  have hK : (m <<< more) / n < 2 ^ (more + m.log2 + 1 - n.log2) := by
    rw [shl_eq]
    have h1 : m * 2 ^ more < 2 ^ (more + m.log2 + 1) := by
      have := Nat.mul_lt_mul_of_pos_right (lt_log2 m) (pow_pos' more)
      rw [← Nat.pow_add] at this
      rwa [show more + m.log2 + 1 = m.log2 + 1 + more by omega]
    have h2 : 2 ^ (more + m.log2 + 1) = 2 ^ (more + m.log2 + 1 - n.log2) * 2 ^ n.log2 := by rw [← Nat.pow_add]; congr 1; omega
    have h3 : 2 ^ n.log2 ≤ n := Nat.log2_self_le hn
    rw [Nat.div_lt_iff_lt_mul (by omega)]
    rw [h2] at h1
    exact Nat.lt_of_lt_of_le h1 (Nat.mul_le_mul_left _ h3)
  generalize (m <<< more) / n = q at hK
  have hmag : (2 * q + ((m <<< more) % n != 0).toNat).log2 < more + m.log2 + 1 - n.log2 + 1 := by
    refine log2_lt' ?_ (by omega)
    rw [Nat.pow_succ]
    have : ((m <<< more) % n != 0).toNat ≤ 1 := Bool.toNat_le _
    omega
  omega
theorem small_mul {a b : Nat} {t u : Nat} (ha : small t a) (hb : small u b) (htu : t + u + 1 ≤ 60) : small (t + u + 1 + 2) (fop .mul .f64 a b) := by
  obtain ⟨s, m, e, h1, h2⟩ := ha
  obtain ⟨s', m', e', h3, h4⟩ := hb
  have ex : fop .mul .f64 a b = ((((Ieee.double.read a).product (Ieee.double.read b)).map Ieee.double.write).getD (qn .f64)) := rfl
  have h1' : Ieee.double.read a = .number s m e := h1
  have h3' : Ieee.double.read b = .number s' m' e' := h3
  rw [ex, h1', h3']
  simp only [Ieee.Datum.product, Option.map_some, Option.getD_some]
  have hl : (m * m').log2 ≤ m.log2 + m'.log2 + 1 := by
    have h5 : m * m' < 2 ^ (m.log2 + m'.log2 + 2) := by
      rcases Nat.eq_zero_or_pos m' with h0 | h0
      · rw [h0, Nat.mul_zero]; exact pow_pos' _
      · have := Nat.mul_lt_mul'' (lt_log2 m) (lt_log2 m')
        rw [← Nat.pow_add] at this
        rwa [show m.log2 + m'.log2 + 2 = m.log2 + 1 + (m'.log2 + 1) by omega]
    have := log2_lt' h5 (by omega)
    omega
  have := small_encode (s ^^ s') (m := m * m') (e := e + e') (t := t + u + 1) (by push_cast; omega) htu
  show small _ (FloatKind.f64.encode _)
  simpa using this
theorem small_round {a : Nat} {t : Nat} (ha : small t a) (ht : t ≤ 50) : small (t + 2 + 2) (fround a) := by
  obtain ⟨s, m, e, h1, h2⟩ := ha
  unfold fround
  rw [h1]
  simp only [Ieee.Datum.integral]
  have hc : Ieee.Toward.even.cut s (m <<< e.toNat) (-e).toNat ≤ 2 ^ (t + 1) + 1 := by
    refine Nat.le_trans (cut_le _ _ _) ?_
    refine Nat.add_le_add_right ?_ 1
    rw [shl_eq]
    have hm := lt_log2 m
    rcases Int.le_total e 0 with h | h
    · rw [show e.toNat = 0 by omega, Nat.pow_zero, Nat.mul_one]
      by_cases hd : (-e).toNat ≤ m.log2 + 2
      · rw [Nat.min_eq_left hd]
        refine Nat.div_le_of_le_mul ?_
        rw [← Nat.pow_add]
        exact Nat.le_of_lt (Nat.lt_of_lt_of_le hm (Nat.pow_le_pow_right (by decide) (by omega)))
      · rw [Nat.min_eq_right (by omega), Nat.div_eq_of_lt (Nat.lt_of_lt_of_le hm (Nat.pow_le_pow_right (by decide) (by omega)))]
        exact Nat.zero_le _
    · rw [show (-e).toNat = 0 by omega, Nat.zero_min, Nat.pow_zero, Nat.div_one]
      have := Nat.mul_lt_mul_of_pos_right hm (pow_pos' e.toNat)
      rw [← Nat.pow_add] at this
      exact Nat.le_of_lt (Nat.lt_of_lt_of_le this (Nat.pow_le_pow_right (by decide) (by omega)))
  have hl : (Ieee.Toward.even.cut s (m <<< e.toNat) (-e).toNat).log2 ≤ t + 2 := by
    have h5 : Ieee.Toward.even.cut s (m <<< e.toNat) (-e).toNat < 2 ^ (t + 3) := by
      have h6 : 2 ^ (t + 3) = 2 ^ (t + 1) * 4 := by rw [show t + 3 = t + 1 + 2 by omega, Nat.pow_add]
      have := pow_pos' (t + 1)
      omega
    have := log2_lt' h5 (by omega)
    omega
  have := small_encode s (m := Ieee.Toward.even.cut s (m <<< e.toNat) (-e).toNat) (e := 0) (t := t + 2) (by omega) (by omega)
  simpa using this
theorem small_int {a : Nat} {t : Nat} (ha : small t a) (ht : t ≤ 60) : ∃ i, floatToIntVal .f64 a .i64 = some i := by
  obtain ⟨s, m, e, h1, h2⟩ := ha
  unfold floatToIntVal
  rw [h1]
  simp only [Ieee.Datum.toInt, Ieee.Datum.integral]
  have hcut : Ieee.Toward.zero.cut s (m <<< e.toNat) (-e).toNat ≤ 2 ^ 61 := by
    have hz : Ieee.Toward.zero.cut s (m <<< e.toNat) (-e).toNat ≤ (m <<< e.toNat) / 2 ^ (-e).toNat := by
      unfold Ieee.Toward.cut
      simp only [Bool.toNat_false, Nat.add_zero, Nat.shiftLeft_eq, Nat.one_mul]
      generalize m * 2 ^ e.toNat = n
      generalize (-e).toNat = d
      by_cases h : d ≤ n.log2 + 2
      · rw [Nat.min_eq_left h]; exact Nat.le_refl _
      · rw [Nat.min_eq_right (by omega)]
        have : n / 2 ^ (n.log2 + 2) = 0 := Nat.div_eq_of_lt (Nat.lt_of_lt_of_le Nat.lt_log2_self (Nat.pow_le_pow_right (by decide) (by omega)))
        rw [this]; exact Nat.zero_le _
    refine Nat.le_trans hz ?_
    rw [shl_eq]
    have hm := lt_log2 m
    rcases Int.le_total e 0 with h | h
    · rw [show e.toNat = 0 by omega, Nat.pow_zero, Nat.mul_one]
      refine Nat.div_le_of_le_mul ?_
      rw [← Nat.pow_add]
      exact Nat.le_of_lt (Nat.lt_of_lt_of_le hm (Nat.pow_le_pow_right (by decide) (by omega)))
    · rw [show (-e).toNat = 0 by omega, Nat.pow_zero, Nat.div_one]
      have := Nat.mul_lt_mul_of_pos_right hm (pow_pos' e.toNat)
      rw [← Nat.pow_add] at this
      exact Nat.le_of_lt (Nat.lt_of_lt_of_le this (Nat.pow_le_pow_right (by decide) (by omega)))
  have hmin : IntKind.i64.min = -9223372036854775808 := by decide
  have hmax : IntKind.i64.max = 9223372036854775807 := by decide
  have h61 : (2 : Nat) ^ 61 = 2305843009213693952 := by decide
  refine ⟨_, if_pos ?_⟩
  rw [hmin, hmax]
  unfold Ieee.signed
  rw [shl_eq, Nat.pow_zero, Nat.mul_one]
  split <;> omega
/-- A number by the scale. -/
def qf (s x : Nat) : Nat := fround (fop .mul .f64 4674736138332667904 (fop .quo .f64 (up x) (up s)))
theorem qf_int {s x : Nat} (hx : rng Ieee.single x < Ieee.single.infRung) (hs : rng Ieee.single s < Ieee.single.infRung) (hs0 : rng Ieee.single s ≠ 0) (hle : units Ieee.single (rng Ieee.single x) ≤ units Ieee.single (rng Ieee.single s)) : ∃ i, floatToIntVal .f64 (qf s x) .i64 = some i := by
  obtain ⟨_, g2, g3⟩ := up_number hx
  obtain ⟨_, k2, k3⟩ := up_number hs
  obtain ⟨m, i, r1, r2⟩ := read_number Ieee.double g2
  obtain ⟨n, j, r3, r4⟩ := read_number Ieee.double k2
  have hlp : Ieee.double.leastPlace = -1074 := by decide
  rw [hlp] at r1 r3
  have hn0 : n * 2 ^ j ≠ 0 := by
    rw [r4, k3]
    exact Nat.mul_ne_zero (units_pos _ hs0) (Nat.pos_iff_ne_zero.1 upK_pos)
  have hn : n ≠ 0 := fun h => hn0 (by rw [h, Nat.zero_mul])
  have hle' : m * 2 ^ i ≤ n * 2 ^ j := by
    rw [r2, r4, g3, k3]; exact Nat.mul_le_mul_right _ hle
  have hlog : i + m.log2 ≤ j + n.log2 := by
    rcases Nat.eq_zero_or_pos m with h0 | h0
    · subst h0
      have : i = 0 := by
        -- the word of zero
        have hu : units Ieee.double (rng Ieee.double (up x)) = 0 := by rw [← r2, Nat.zero_mul]
        have hr0 := (units_zero Ieee.double).1 hu
        have hsm : Ieee.double.read (up x) = .number (sgn Ieee.double (up x)) 0 (-1074) := by
          unfold rng at hr0
          unfold Ieee.Format.read
          simp only [hr0]
          rw [if_pos (by decide), hlp]; rfl
        rw [hsm] at r1
        injection r1 with _ _ h3
        omega
      have : Nat.log2 0 = 0 := by decide
      omega
    · have := log2_mono hle'
      rw [log2_mul_pow (by omega), log2_mul_pow hn] at this
      omega
  have q1 := small_quo r1 r3 hn hlog
  have c1 : small (14 : Nat) 4674736138332667904 := ⟨false, 9006924376834048, -38, by decide, by decide⟩
  have q2 := small_mul (t := 14) (u := 2) c1 q1 (by decide)
  have q3 := small_round (t := 19) (by simpa using q2) (by decide)
  exact small_int (t := 23) (by show small _ (fround _); simpa using q3) (by decide)
end Go.Proofs.Ytacjcomjnabmhaa
