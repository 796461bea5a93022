/- Narrowing: where a 64-bit number is not too great for a 32-bit one. -/
import Derived.Test.YtacjcomjnabmhaaFlo
namespace Go.Proofs.Ytacjcomjnabmhaa
open Go.RowKit

theorem shl_eq (a b : Nat) : a <<< b = a * 2 ^ b := Nat.shiftLeft_eq a b
theorem log2_mul_pow {m : Nat} (h : m ≠ 0) (k : Nat) : (m * 2 ^ k).log2 = m.log2 + k := by
  have h1 := Nat.log2_self_le h
  have h2 : m < 2 ^ (m.log2 + 1) := Nat.lt_log2_self
  have hne : m * 2 ^ k ≠ 0 := Nat.mul_ne_zero h (Nat.ne_of_gt (pow_pos' k))
  apply Nat.le_antisymm
  · have : m * 2 ^ k < 2 ^ (m.log2 + k + 1) := by
      rw [show m.log2 + k + 1 = (m.log2 + 1) + k by omega, Nat.pow_add]
      exact Nat.mul_lt_mul_of_pos_right h2 (pow_pos' k)
    have := (Nat.log2_lt hne).2 this
    omega
  · rw [Nat.le_log2 hne, Nat.pow_add]
    exact Nat.mul_le_mul_right _ h1

/-- What is cut is at most one more than the quotient. -/
theorem cut_le (s : Bool) (n drop : Nat) : Ieee.Toward.even.cut s n drop ≤ n / 2 ^ min drop (n.log2 + 2) + 1 := by
  unfold Ieee.Toward.cut
  simp only [shl_eq, Nat.one_mul]
  generalize n / 2 ^ min drop (n.log2 + 2) = q
  have : ∀ b : Bool, q + b.toNat ≤ q + 1 := fun b => by cases b <;> simp
  exact this _
theorem cut_zero (s : Bool) (n : Nat) : Ieee.Toward.even.cut s n 0 = n := by
  unfold Ieee.Toward.cut
  simp [Nat.mod_one]
theorem cut_exact (s : Bool) (a d : Nat) (ha : a ≠ 0) : Ieee.Toward.even.cut s (a * 2 ^ d) d = a := by
  unfold Ieee.Toward.cut
  have hl := log2_mul_pow ha d
  have hmin : min d ((a * 2 ^ d).log2 + 2) = d := by rw [hl]; omega
  simp only [shl_eq, Nat.one_mul, hmin]
  have h1 : a * 2 ^ d / 2 ^ d = a := Nat.mul_div_cancel _ (pow_pos' d)
  have h2 : a * 2 ^ d % 2 ^ d = 0 := Nat.mul_mod_left _ _
  rw [h1, h2]
  have hp := pow_pos' d
  have : (decide (2 ^ d < 2 * 0) || 2 ^ d == 2 * 0 && a % 2 == 1) = false := by
    have : (2 ^ d == 2 * 0) = false := by rw [beq_eq_false_iff_ne]; omega
    rw [this]; simp
  rw [this]; rfl

/-- the kept digits of a number are at most 2 ^ (fraction bits + 1) -/
theorem kept_le (s : Bool) {m f : Nat} {place last : Int} (h : place + m.log2 - f ≤ last) : Ieee.Toward.even.cut s (m <<< (place - last).toNat) (last - place).toNat ≤ 2 ^ (f + 1) := by
  have hup : m < 2 ^ (m.log2 + 1) := Nat.lt_log2_self
  rcases Int.le_total last place with hle | hle
  · have e1 : (last - place).toNat = 0 := by omega
    rw [e1, cut_zero, shl_eq]
    have : m * 2 ^ (place - last).toNat < 2 ^ (m.log2 + 1) * 2 ^ (place - last).toNat := Nat.mul_lt_mul_of_pos_right hup (pow_pos' _)
    rw [← Nat.pow_add] at this
    have h3 : 2 ^ (m.log2 + 1 + (place - last).toNat) ≤ 2 ^ (f + 1) := Nat.pow_le_pow_right (by decide) (by omega)
    omega
  · have e1 : (place - last).toNat = 0 := by omega
    rw [e1, shl_eq, Nat.pow_zero, Nat.mul_one]
    refine Nat.le_trans (cut_le s m _) ?_
    generalize hd : (last - place).toNat = d
    have hfd : m.log2 + 1 ≤ f + 1 + d := by omega
    -- the quotient is below 2 ^ (f + 1)
    have : m / 2 ^ min d (m.log2 + 2) < 2 ^ (f + 1) := by
      rw [Nat.div_lt_iff_lt_mul (pow_pos' _), ← Nat.pow_add]
      exact Nat.lt_of_lt_of_le hup (Nat.pow_le_pow_right (by decide) (by omega))
    omega

/-- The rung of a nearest word. -/
theorem nearest_rung (f : Ieee.Format) (s : Bool) {m : Nat} {place : Int} {t : Nat} (h : place + m.log2 ≤ f.leastPlace + f.fractionBits + t) :
    ∃ r, f.nearest s m place = f.word s r ∧ r ≤ (t + 2) * f.binade := by
  unfold Ieee.Format.nearest
  by_cases hm : m = 0
  · rw [if_pos hm]; exact ⟨0, rfl, Nat.zero_le _⟩
  · rw [if_neg hm]
    refine ⟨_, rfl, Nat.le_trans (Nat.min_le_left _ _) ?_⟩
    have hk := kept_le s (m := m) (f := f.fractionBits) (place := place) (last := max (place + (m.log2 : Int) - (f.fractionBits : Int)) f.leastPlace) (Int.le_max_left _ _)
    have hb : 2 ^ (f.fractionBits + 1) = 2 * f.binade := by rw [Nat.pow_succ, Nat.mul_comm]; rfl
    rw [hb] at hk
    have ht : (max (place + (m.log2 : Int) - (f.fractionBits : Int)) f.leastPlace - f.leastPlace).toNat ≤ t := by omega
    have := Nat.mul_le_mul_right f.binade ht
    rw [Nat.add_mul]
    exact Nat.add_le_add this hk

theorem single_word_fin (s : Bool) {r : Nat} (h : r < 2139095040) : (FloatKind.f32.decode (Ieee.single.word s r)).isInfinity = false := by
  have hsw : Ieee.single.signWeight = 2147483648 := by decide
  have hinf : Ieee.single.infRung = 2139095040 := by decide
  have e : Ieee.single.word s r % 2147483648 = r := by
    unfold Ieee.Format.word; rw [hsw]; split <;> omega
  unfold FloatKind.decode FloatKind.format Ieee.Format.read
  simp only [hsw, hinf, e]
  by_cases h1 : r < Ieee.single.binade
  · rw [if_pos h1]; rfl
  · rw [if_neg h1, if_pos h]; rfl

/-- A number below 2 ^ 127 is narrowed to a number. -/
theorem narrow_small (s : Bool) {m : Nat} {e : Int} (h : e + m.log2 ≤ 126) : (FloatKind.f32.decode (FloatKind.f32.encode (.number s m e))).isInfinity = false := by
  have hlp : Ieee.single.leastPlace = -149 := by decide
  have hfb : Ieee.single.fractionBits = 23 := rfl
  have hb : Ieee.single.binade = 8388608 := by decide
  obtain ⟨r, h1, h2⟩ := nearest_rung Ieee.single s (m := m) (place := e) (t := 252) (by rw [hlp, hfb]; omega)
  show (FloatKind.f32.decode (Ieee.single.nearest s m e)).isInfinity = false
  rw [h1]
  exact single_word_fin s (by rw [hb] at h2; omega)

/-- A number that is a 32-bit one is narrowed to a number. -/
theorem narrow_same (s : Bool) {m k : Nat} {e : Int} (hm : m < 2 ^ 24) (he : e ≤ 104) (h0 : -149 ≤ e) : (FloatKind.f32.decode (FloatKind.f32.encode (.number s (m * 2 ^ k) (e - k)))).isInfinity = false := by
  by_cases hm0 : m = 0
  · subst hm0
    rw [Nat.zero_mul]
    show (FloatKind.f32.decode (Ieee.single.nearest s 0 (e - k))).isInfinity = false
    unfold Ieee.Format.nearest
    rw [if_pos rfl]
    exact single_word_fin s (by decide)
  · by_cases hs : e + m.log2 ≤ 126
    · refine narrow_small s ?_
      rw [log2_mul_pow hm0]; omega
    · have hl : m.log2 = 23 ∧ e = 104 := by
        have := (Nat.log2_lt hm0).2 hm
        omega
      obtain ⟨hl, rfl⟩ := hl
      show (FloatKind.f32.decode (Ieee.single.nearest s (m * 2 ^ k) (104 - k))).isInfinity = false
      unfold Ieee.Format.nearest
      have hne : m * 2 ^ k ≠ 0 := Nat.mul_ne_zero hm0 (Nat.ne_of_gt (pow_pos' k))
      have hlp : Ieee.single.leastPlace = -149 := by decide
      have hfb : Ieee.single.fractionBits = 23 := rfl
      have hb : Ieee.single.binade = 8388608 := by decide
      have hinf : Ieee.single.infRung = 2139095040 := by decide
      rw [if_neg hne, log2_mul_pow hm0, hl]
      simp only [hlp, hfb, hb, hinf]
      have e1 : max (104 - (k : Int) + ((23 + k : Nat) : Int) - ((23 : Nat) : Int)) (-149) = 104 := by omega
      rw [e1]
      have e2 : (104 - (k : Int) - 104).toNat = 0 := by omega
      have e3 : (104 - (104 - (k : Int))).toNat = k := by omega
      rw [e2, e3, shl_eq, Nat.pow_zero, Nat.mul_one, cut_exact s m k hm0]
      refine single_word_fin s ?_
      have e4 : (104 - (-149 : Int)).toNat = 253 := by decide
      rw [e4]
      omega

/-! ### what is rounded to a whole number -/
theorem decode_double_bound {x : Nat} {s : Bool} {m : Nat} {e : Int} (h : FloatKind.f64.decode x = .number s m e) : m < 2 ^ 53 ∧ -1074 ≤ e ∧ (e = -1074 ∨ 2 ^ 52 ≤ m) ∧ e ≤ 971 := by
  have hsw : FloatKind.f64.format.signWeight = 9223372036854775808 := by decide
  have hinf : FloatKind.f64.format.infRung = 9218868437227405312 := by decide
  have hbin : FloatKind.f64.format.binade = 4503599627370496 := by decide
  have hlp : FloatKind.f64.format.leastPlace = -1074 := by decide
  unfold FloatKind.decode Ieee.Format.read at h
  simp only [hsw, hinf, hbin, hlp] at h
  split at h
  · cases h; omega
  · split at h
    · cases h
      have : x % 9223372036854775808 / 4503599627370496 ≤ 2046 := by omega
      have : 1 ≤ x % 9223372036854775808 / 4503599627370496 := by omega
      omega
    · split at h <;> cases h

/-- a double word's number is below 2 ^ (t + 1) if its rung is below .. -/
theorem decode_word_double (s : Bool) {r : Nat} (hr : r < 9218868437227405312) : ∃ m e, FloatKind.f64.decode (Ieee.double.word s r) = .number s m e ∧ e + m.log2 ≤ -1074 + 52 + (r / 4503599627370496 : Nat) := by
  have hsw : Ieee.double.signWeight = 9223372036854775808 := by decide
  have hinf : Ieee.double.infRung = 9218868437227405312 := by decide
  have hbin : Ieee.double.binade = 4503599627370496 := by decide
  have hlp : Ieee.double.leastPlace = -1074 := by decide
  have hw := double_word s (r := r) (by omega)
  have hm : Ieee.double.word s r % 9223372036854775808 = r := by have := hw.2; unfold rng at this; rwa [hsw] at this
  have hs : (Ieee.double.word s r / 9223372036854775808 % 2 == 1) = s := by have := hw.1; unfold sgn at this; rwa [hsw] at this
  unfold FloatKind.decode FloatKind.format Ieee.Format.read
  simp only [hsw, hinf, hbin, hlp, hm, hs]
  by_cases h1 : r < 4503599627370496
  · rw [if_pos h1]
    refine ⟨r, -1074, rfl, ?_⟩
    have hl : r.log2 ≤ 52 := by
      by_cases h0 : r = 0
      · subst h0; decide
      · have := (Nat.log2_lt h0 (k := 52)).2 h1
        omega
    omega
  · rw [if_neg h1, if_pos hr]
    refine ⟨_, _, rfl, ?_⟩
    have hl : (4503599627370496 + r % 4503599627370496).log2 ≤ 52 := by
      have h2 : 4503599627370496 + r % 4503599627370496 < 2 ^ 53 := by
        have : (2 : Nat) ^ 53 = 9007199254740992 := by decide
        omega
      have := (Nat.log2_lt (by omega)).2 h2
      omega
    have : 1 ≤ r / 4503599627370496 := by omega
    omega

theorem fover_small {x : Nat} {s : Bool} {m : Nat} {e : Int} (hx : FloatKind.f64.decode x = .number s m e) (h : e + m.log2 ≤ 126) : fover .f64 .f32 x = false := by
  unfold fover
  rw [if_neg (by decide), hx]
  exact narrow_small s h

theorem encode_small (s : Bool) {m : Nat} {e : Int} {t : Nat} (h : e + m.log2 ≤ -1074 + 52 + (t : Int)) (ht : t ≤ 2000) : ∃ m' e', FloatKind.f64.decode (FloatKind.f64.encode (.number s m e)) = .number s m' e' ∧ e' + m'.log2 ≤ -1074 + 52 + ((t + 2 : Nat) : Int) := by
  have hlp : Ieee.double.leastPlace = -1074 := by decide
  have hfb : Ieee.double.fractionBits = 52 := rfl
  have hbin : Ieee.double.binade = 4503599627370496 := by decide
  obtain ⟨r, h1, h2⟩ := nearest_rung Ieee.double s (m := m) (place := e) (t := t) (by rw [hlp, hfb]; omega)
  rw [hbin] at h2
  show ∃ m' e', FloatKind.f64.decode (Ieee.double.nearest s m e) = .number s m' e' ∧ _
  rw [h1]
  obtain ⟨m', e', g1, g2⟩ := decode_word_double s (r := r) (by omega)
  refine ⟨m', e', g1, Int.le_trans g2 ?_⟩
  have : r / 4503599627370496 ≤ t + 2 := by omega
  omega

/-- The word of a small number in the wider kind, and what it reads as. -/
theorem double_of (s : Bool) {M : Nat} {A : Nat} (h1 : 4503599627370496 ≤ M) (h2 : M < 9007199254740992) (hA : A ≤ 1149) :
    FloatKind.f64.decode (Ieee.double.word s (A * 4503599627370496 + M)) = .number s M (-1074 + (A : Int)) := by
  have hsw : Ieee.double.signWeight = 9223372036854775808 := by decide
  have hinf : Ieee.double.infRung = 9218868437227405312 := by decide
  have hbin : Ieee.double.binade = 4503599627370496 := by decide
  have hlp : Ieee.double.leastPlace = -1074 := by decide
  have hr := sum_room A M hA h2
  have hw := double_word s (r := A * 4503599627370496 + M) (by omega)
  have hm : Ieee.double.word s (A * 4503599627370496 + M) % 9223372036854775808 = A * 4503599627370496 + M := by have := hw.2; unfold rng at this; rwa [hsw] at this
  have hs : (Ieee.double.word s (A * 4503599627370496 + M) / 9223372036854775808 % 2 == 1) = s := by have := hw.1; unfold sgn at this; rwa [hsw] at this
  obtain ⟨q1, q2⟩ := div_room 4503599627370496 A M h1 h2
  unfold FloatKind.decode FloatKind.format Ieee.Format.read
  simp only [hsw, hinf, hbin, hlp, hm, hs]
  rw [if_neg (ge_room A M h1), if_pos hr, q1, q2, Nat.add_sub_cancel, Nat.add_sub_cancel' h1]

/-- A whole number of 53 digits, and more places, is its own word. -/
theorem nearest_whole (s : Bool) {M E : Nat} (h1 : 4503599627370496 ≤ M) (h2 : M < 9007199254740992) (hE : E ≤ 75) :
    Ieee.double.nearest s (M * 2 ^ E) 0 = Ieee.double.word s ((E + 1074) * 4503599627370496 + M) := by
  have hM : M ≠ 0 := by omega
  have hl : M.log2 = 52 := by
    apply Nat.le_antisymm
    · have := (Nat.log2_lt hM (k := 53)).2 h2; omega
    · exact (Nat.le_log2 hM).2 h1
  have hlp : Ieee.double.leastPlace = -1074 := by decide
  have hfb : Ieee.double.fractionBits = 52 := rfl
  have hbin : Ieee.double.binade = 4503599627370496 := by decide
  have hinf : Ieee.double.infRung = 9218868437227405312 := by decide
  unfold Ieee.Format.nearest
  rw [if_neg (Nat.mul_ne_zero hM (Nat.ne_of_gt (pow_pos' E))), log2_mul_pow hM, hl]
  simp only [hlp, hfb, hbin, hinf]
  have e1 : max (0 + ((52 + E : Nat) : Int) - ((52 : Nat) : Int)) (-1074) = (E : Int) := by omega
  rw [e1]
  have e2 : (0 - (E : Int)).toNat = 0 := by omega
  have e3 : ((E : Int) - 0).toNat = E := by omega
  have e4 : ((E : Int) - -1074).toNat = E + 1074 := by omega
  rw [e2, e3, e4, shl_eq, Nat.pow_zero, Nat.mul_one, cut_exact s M E hM, min_room _ _ (by omega) h2]

theorem up_great {y : Nat} {s : Bool} {m : Nat} {e : Int} (hd : FloatKind.f32.decode y = .number s m e) (hbig : 120 < e + m.log2) :
    ∃ E : Nat, E ≤ 75 ∧ (E : Int) = e + m.log2 - 52 ∧ 4503599627370496 ≤ m * 2 ^ (52 - m.log2) ∧ m * 2 ^ (52 - m.log2) < 9007199254740992 ∧ up y = Ieee.double.word s ((E + 1074) * 4503599627370496 + m * 2 ^ (52 - m.log2)) := by
  obtain ⟨g1, g2, g3⟩ := read32 hd
  have hm0 : m ≠ 0 := by
    intro h; subst h
    have : (0 : Nat).log2 = 0 := by decide
    omega
  have hl : m.log2 ≤ 23 := by
    have := (Nat.log2_lt hm0).2 g1
    omega
  have hlow : 2 ^ m.log2 ≤ m := Nat.log2_self_le hm0
  have hup : m < 2 ^ (m.log2 + 1) := Nat.lt_log2_self
  have k2 : m * 2 ^ (52 - m.log2) < 9007199254740992 := by
    have : m * 2 ^ (52 - m.log2) < 2 ^ (m.log2 + 1) * 2 ^ (52 - m.log2) := Nat.mul_lt_mul_of_pos_right hup (pow_pos' _)
    rw [← Nat.pow_add, show m.log2 + 1 + (52 - m.log2) = 53 by omega] at this
    exact this
  have k1 : 4503599627370496 ≤ m * 2 ^ (52 - m.log2) := by
    have : 2 ^ m.log2 * 2 ^ (52 - m.log2) ≤ m * 2 ^ (52 - m.log2) := Nat.mul_le_mul_right _ hlow
    rw [← Nat.pow_add, show m.log2 + (52 - m.log2) = 52 by omega] at this
    exact this
  refine ⟨(e + m.log2 - 52).toNat, by omega, by omega, k1, k2, ?_⟩
  have hup' : up y = Ieee.double.nearest s m e := by
    unfold up fconv
    rw [if_neg (by decide), hd]; rfl
  rw [hup']
  have hlp : Ieee.double.leastPlace = -1074 := by decide
  have hfb : Ieee.double.fractionBits = 52 := rfl
  have hbin : Ieee.double.binade = 4503599627370496 := by decide
  have hinf : Ieee.double.infRung = 9218868437227405312 := by decide
  unfold Ieee.Format.nearest
  rw [if_neg hm0]
  simp only [hlp, hfb, hbin, hinf]
  generalize m.log2 = l at *
  have e1 : max (e + (l : Int) - ((52 : Nat) : Int)) (-1074) = e + (l : Int) - 52 := by omega
  rw [e1]
  have e2 : (e - (e + (l : Int) - 52)).toNat = 52 - l := by omega
  have e3 : (e + (l : Int) - 52 - e).toNat = 0 := by omega
  have e4 : (e + (l : Int) - 52 - -1074).toNat = (e + (l : Int) - 52).toNat + 1074 := by omega
  rw [e2, e3, e4, cut_zero, shl_eq, min_room _ _ (by omega) k2]

theorem fover_round (y : Nat) : fover .f64 .f32 (fround (up y)) = false := by
  cases hd : FloatKind.f32.decode y with
  | nan s f =>
    have hn : fnan .f32 y = true := by unfold fnan; rw [hd]; rfl
    rw [up_nan hn]
    decide
  | infinity s =>
    have hu : up y = Ieee.double.word s Ieee.double.infRung := by
      unfold up fconv; rw [if_neg (by decide), hd]; rfl
    rw [hu]
    cases s <;> decide
  | number s m e =>
    obtain ⟨g1, g2, g3⟩ := read32 hd
    by_cases hbig : e + m.log2 ≤ 120
    · -- not great: two roundings stay below
      have hu : up y = FloatKind.f64.encode (.number s m e) := by
        unfold up fconv; rw [if_neg (by decide), hd]
      obtain ⟨m', e', k1, k2⟩ := encode_small s (m := m) (e := e) (t := 1142) (by omega) (by decide)
      rw [← hu] at k1
      obtain ⟨b1, b2, _, _⟩ := decode_double_bound k1
      have hint : fround (up y) = FloatKind.f64.encode (.number s (Ieee.Toward.even.cut s (m' <<< e'.toNat) (-e').toNat) 0) := by
        unfold fround; rw [k1]; rfl
      rw [hint]
      have hlog : (Ieee.Toward.even.cut s (m' <<< e'.toNat) (-e').toNat).log2 ≤ 122 := by
        by_cases hp : 0 ≤ e'
        · have : (-e').toNat = 0 := by omega
          rw [this, cut_zero, shl_eq]
          by_cases hm' : m' = 0
          · subst hm'; rw [Nat.zero_mul]; decide
          · rw [log2_mul_pow hm']; omega
        · have : e'.toNat = 0 := by omega
          rw [this, shl_eq, Nat.pow_zero, Nat.mul_one]
          have hc := cut_le s m' (-e').toNat
          have hq : m' / 2 ^ min (-e').toNat (m'.log2 + 2) ≤ m' := Nat.div_le_self _ _
          generalize Ieee.Toward.even.cut s m' (-e').toNat = c at *
          by_cases hc0 : c = 0
          · subst hc0; decide
          · have : c < 2 ^ 123 := Nat.lt_of_le_of_lt (Nat.le_trans hc (Nat.add_le_add_right hq 1)) (Nat.lt_of_le_of_lt (show m' + 1 ≤ 2 ^ 53 from b1) (by decide))
            have := (Nat.log2_lt hc0).2 this
            omega
      obtain ⟨m2, e2, k3, k4⟩ := encode_small s (m := Ieee.Toward.even.cut s (m' <<< e'.toNat) (-e').toNat) (e := 0) (t := 1144) (by omega) (by decide)
      exact fover_small k3 (by omega)
    · -- great: it is whole
      obtain ⟨E, hE, hEe, k1, k2, hu⟩ := up_great hd (by omega)
      have hdec := double_of s (M := m * 2 ^ (52 - m.log2)) (A := E + 1074) k1 k2 (by omega)
      have hE2 : -1074 + ((E + 1074 : Nat) : Int) = (E : Int) := by omega
      rw [← hu, hE2] at hdec
      have hint : fround (up y) = Ieee.double.nearest s (m * 2 ^ (52 - m.log2) * 2 ^ E) 0 := by
        unfold fround
        rw [hdec]
        show Ieee.double.nearest s (Ieee.Toward.even.cut s ((m * 2 ^ (52 - m.log2)) <<< ((E : Int)).toNat) (-(E : Int)).toNat) 0 = _
        have e1 : (-(E : Int)).toNat = 0 := by omega
        have e2 : ((E : Int)).toNat = E := by omega
        rw [e1, e2, cut_zero, shl_eq]
      rw [hint, nearest_whole s k1 k2 hE, ← hu]
      unfold fover
      rw [if_neg (by decide), hdec]
      have hm0 : m ≠ 0 := by
        intro h; subst h; omega
      have hl : m.log2 ≤ 23 := by
        have := (Nat.log2_lt hm0).2 g1
        omega
      have : (E : Int) = e - ((52 - m.log2 : Nat) : Int) := by omega
      rw [this]
      exact narrow_same s g1 g3 g2

/-! ### steps -/
def stepOf (unit x : Nat) : Nat :=
  fop .mul .f32 unit (if fcmp .eql .f32 (fconv .f64 .f32 (fround (fconv .f32 .f64 (fop .quo .f32 x unit)))) 0 = true then 0 else fconv .f64 .f32 (fround (fconv .f32 .f64 (fop .quo .f32 x unit))))
def stepsOk (xs : List Nat) (unit : Nat) : Bool := decide (xs.length ≤ 8) && above unit
def stepsOf (xs : List Nat) (unit : Nat) : List Nat := if stepsOk xs unit then xs.map (stepOf unit) else []
theorem can_stepOf (unit x : Nat) : Can .f32 (stepOf unit x) := can_fop _ _ _ _
theorem can_stepsOf (xs : List Nat) (unit : Nat) : ∀ y ∈ stepsOf xs unit, Can .f32 y := by
  intro y hy
  unfold stepsOf at hy
  split at hy
  · obtain ⟨x, _, rfl⟩ := List.mem_map.1 hy
    exact can_stepOf unit x
  · cases hy
theorem length_stepsOf (xs : List Nat) (unit : Nat) : (stepsOf xs unit).length ≤ 8 := by
  unfold stepsOf stepsOk
  split
  · rename_i h
    simp only [Bool.and_eq_true, decide_eq_true_eq] at h
    rw [List.length_map]; exact h.1
  · simp
end Go.Proofs.Ytacjcomjnabmhaa
