/- What a format has is written as it is: exact numbers, absolute values. -/
import Derived.Test.YtacjcomjnabmhaaBits
import Derived.Test.YtacjcomjnabmhaaNar
namespace Go.Proofs.Ytacjcomjnabmhaa
open Go.RowKit

theorem units_pos (f : Ieee.Format) {r : Nat} (h : r ≠ 0) : units f r ≠ 0 := fun e => h ((units_zero f).1 e)
/-- A number that the format has is written as its word. -/
theorem nearest_units (f : Ieee.Format) (s : Bool) {m r a b : Nat} {e : Int} (hr : r ≤ f.infRung) (he : e + a = f.leastPlace + b) (h : m * 2 ^ b = units f r * 2 ^ a) : f.nearest s m e = f.word s r := by
  unfold Ieee.Format.nearest
  have hpa := pow_pos' a
  have hpb := pow_pos' b
  by_cases hr0 : r = 0
  · subst hr0
    have hu : units f 0 = 0 := (units_zero f).2 rfl
    rw [hu, Nat.zero_mul] at h
    have hm : m = 0 := by
      rcases Nat.mul_eq_zero.1 h with h | h
      · exact h
      · omega
    rw [if_pos hm]
  · have hu := units_pos f hr0
    have hm : m ≠ 0 := by
      rintro rfl
      rw [Nat.zero_mul] at h
      rcases Nat.mul_eq_zero.1 h.symm with h | h
      · exact hu h
      · omega
    rw [if_neg hm]
    have hl : m.log2 + b = (units f r).log2 + a := by rw [← log2_mul_pow hm b, ← log2_mul_pow hu a, h]
    have hb : 0 < f.binade := pow_pos' _
    -- the kept digits, for any last place at which the number is whole
    have key : ∀ (q t : Nat), q ≠ 0 → units f r = q * 2 ^ t → Ieee.Toward.even.cut s (m <<< (e - (f.leastPlace + t)).toNat) ((f.leastPlace + t) - e).toNat = q := by
      intro q t hq hqt
      rw [hqt, Nat.mul_assoc, ← Nat.pow_add] at h
      rcases Nat.le_total (t + a) b with hle | hle
      · have e1 : (e - (f.leastPlace + t)).toNat = b - (t + a) := by omega
        have e2 : ((f.leastPlace + t) - e).toNat = 0 := by omega
        rw [e1, e2, cut_zero, shl_eq]
        have : b = (b - (t + a)) + (t + a) := by omega
        rw [this, Nat.pow_add, ← Nat.mul_assoc] at h
        exact Nat.eq_of_mul_eq_mul_right (pow_pos' _) h
      · have e1 : (e - (f.leastPlace + t)).toNat = 0 := by omega
        have e2 : ((f.leastPlace + t) - e).toNat = t + a - b := by omega
        have : t + a = (t + a - b) + b := by omega
        rw [this, Nat.pow_add, ← Nat.mul_assoc] at h
        have hm' := Nat.eq_of_mul_eq_mul_right hpb h
        rw [e1, e2, shl_eq, Nat.pow_zero, Nat.mul_one, hm']
        exact cut_exact s q _ hq
    by_cases hrb : r < f.binade
    · have hur : units f r = r := by unfold units; rw [if_pos hrb]
      have hlg : (units f r).log2 < f.fractionBits := by
        rw [hur]
        exact (Nat.log2_lt hr0).2 hrb
      have hlast : max (e + (m.log2 : Int) - (f.fractionBits : Int)) f.leastPlace = f.leastPlace + ((0 : Nat) : Int) := by omega
      simp only [hlast]
      have := key r 0 hr0 (by rw [hur]; simp)
      rw [this]
      simp
      rw [Nat.min_eq_left hr]
    · have hq1 : 1 ≤ r / f.binade := (Nat.le_div_iff_mul_le hb).2 (by omega)
      have hmod := Nat.mod_lt r hb
      have hur : units f r = (f.binade + r % f.binade) * 2 ^ (r / f.binade - 1) := by unfold units; rw [if_neg hrb]
      have hqne : f.binade + r % f.binade ≠ 0 := by omega
      have hlg : (units f r).log2 = f.fractionBits + (r / f.binade - 1) := by
        rw [hur, log2_mul_pow hqne]
        congr 1
        rw [Nat.log2_eq_iff hqne]
        have hbe : f.binade = 2 ^ f.fractionBits := rfl
        rw [Nat.pow_succ, ← hbe]
        omega
      have hlast : max (e + (m.log2 : Int) - (f.fractionBits : Int)) f.leastPlace = f.leastPlace + ((r / f.binade - 1 : Nat) : Int) := by omega
      simp only [hlast]
      rw [key _ _ hqne hur]
      congr 1
      have e1 : (f.leastPlace + ((r / f.binade - 1 : Nat) : Int) - f.leastPlace).toNat = r / f.binade - 1 := by omega
      rw [e1]
      have e2 := Nat.div_add_mod r f.binade
      have e3 : (r / f.binade - 1) * f.binade + (f.binade + r % f.binade) = r := by
        have : r / f.binade = (r / f.binade - 1) + 1 := by omega
        rw [this, Nat.mul_add, Nat.mul_one] at e2
        rw [Nat.mul_comm]
        omega
      rw [e3, Nat.min_eq_left hr]

theorem word_of (k : FloatKind) {x : Nat} (h : x < 2 ^ k.format.width) : k.format.word (sgn k.format x) (rng k.format x) = x := by
  rw [width_pos] at h
  have hp : 0 < k.format.signWeight := pow_pos' _
  have h1 : x / k.format.signWeight < 2 := (Nat.div_lt_iff_lt_mul hp).2 h
  have e1 := Nat.div_add_mod x k.format.signWeight
  unfold Ieee.Format.word sgn rng
  rw [Nat.mod_eq_of_lt h1]
  generalize x / k.format.signWeight = q at *
  have hq : q = 0 ∨ q = 1 := by omega
  rcases hq with rfl | rfl
  · simp; omega
  · simp; omega
/-- The absolute value: without the sign. -/
def fabs (k : FloatKind) (x : Nat) : Nat := if fnan k x then qn k else x % k.format.signWeight
theorem rng_abs (f : Ieee.Format) (x : Nat) : rng f (x % f.signWeight) = rng f x := Nat.mod_mod _ _
theorem sgn_abs (f : Ieee.Format) (x : Nat) : sgn f (x % f.signWeight) = false := by
  have hp : 0 < f.signWeight := pow_pos' _
  unfold sgn
  rw [Nat.div_eq_of_lt (Nat.mod_lt _ hp)]
  rfl
theorem fnan_rng (k : FloatKind) (x : Nat) : fnan k x = decide (k.format.infRung < rng k.format x) := by
  cases h : fnan k x
  · have := rng_le h
    symm; exact decide_eq_false (by omega)
  · symm
    apply decide_eq_true
    apply Classical.byContradiction
    intro hn
    rcases Nat.lt_or_ge (rng k.format x) k.format.infRung with h1 | h1
    · obtain ⟨m, e, h2, _⟩ := read_number k.format h1
      unfold fnan FloatKind.decode at h
      rw [h2] at h
      cases h
    · have h2 := read_inf k (x := x) (by omega)
      unfold fnan FloatKind.decode at h
      rw [h2] at h
      cases h
theorem fnan_abs (k : FloatKind) (x : Nat) : fnan k (x % k.format.signWeight) = fnan k x := by rw [fnan_rng, fnan_rng, rng_abs]
theorem sw_lt (k : FloatKind) : k.format.signWeight < 2 ^ k.format.width := by cases k <;> decide
theorem can_fabs (k : FloatKind) (x : Nat) : Can k (fabs k x) := by
  unfold fabs
  split
  · exact ⟨by rw [cb_of_nan (fnan_qn k)], qn_lt k⟩
  · rename_i h
    have hp : 0 < k.format.signWeight := pow_pos' _
    exact ⟨cb_num (by rw [fnan_abs]; simpa using h), Nat.lt_trans (Nat.mod_lt _ hp) (sw_lt k)⟩

theorem rng_word (k : FloatKind) (s : Bool) {r : Nat} (h : r ≤ k.format.infRung) : rng k.format (k.format.word s r) = r ∧ sgn k.format (k.format.word s r) = s := by
  have hlt : r < k.format.signWeight := Nat.lt_of_le_of_lt h (by cases k <;> decide)
  have hp : 0 < k.format.signWeight := pow_pos' _
  unfold rng sgn Ieee.Format.word
  cases s
  · simp only [Bool.false_eq_true, if_false]
    rw [Nat.mod_eq_of_lt hlt, Nat.div_eq_of_lt hlt]
    exact ⟨rfl, rfl⟩
  · simp only [if_true]
    rw [Nat.add_mod_left, Nat.mod_eq_of_lt hlt, Nat.add_div_left _ hp, Nat.div_eq_of_lt hlt]
    exact ⟨rfl, rfl⟩

/-- A 64-bit word that stands for a 32-bit number is narrowed to it. -/
theorem down_exact {X r : Nat} (hX : rng Ieee.double X < Ieee.double.infRung) (hr : r < Ieee.single.infRung) (hu : units Ieee.double (rng Ieee.double X) = units Ieee.single r * upK) :
    fconv .f64 .f32 X = Ieee.single.word (sgn Ieee.double X) r ∧ fover .f64 .f32 X = false := by
  obtain ⟨m, e, h1, h2⟩ := read_number Ieee.double hX
  have hn : Ieee.single.nearest (sgn Ieee.double X) m (Ieee.double.leastPlace + (e : Nat)) = Ieee.single.word (sgn Ieee.double X) r := by
    refine nearest_units Ieee.single _ (a := 925) (b := e) (Nat.le_of_lt hr) ?_ ?_
    · have hlp : Ieee.double.leastPlace = -1074 := by decide
      have hlp' : Ieee.single.leastPlace = -149 := by decide
      rw [hlp, hlp']; omega
    · rw [h2, hu, upK, pow2]
  have hd : FloatKind.f64.decode X = .number (sgn Ieee.double X) m (Ieee.double.leastPlace + (e : Nat)) := h1
  constructor
  · unfold fconv
    rw [if_neg (by decide), hd]
    exact hn
  · unfold fover
    rw [if_neg (by decide), hd]
    have : FloatKind.f32.encode (.number (sgn Ieee.double X) m (Ieee.double.leastPlace + (e : Nat))) = Ieee.single.word (sgn Ieee.double X) r := hn
    simp only [this]
    have hw := rng_word .f32 (sgn Ieee.double X) (r := r) (Nat.le_of_lt hr)
    obtain ⟨m', e', h3, _⟩ := read_number Ieee.single (x := Ieee.single.word (sgn Ieee.double X) r) (by
      have := hw.1
      change rng Ieee.single (Ieee.single.word _ r) = r at this
      omega)
    have : FloatKind.f32.decode (Ieee.single.word (sgn Ieee.double X) r) = .number (sgn Ieee.single (Ieee.single.word (sgn Ieee.double X) r)) m' (Ieee.single.leastPlace + (e' : Nat)) := h3
    rw [this]; rfl

/-- The absolute value, by way of 64 bits. -/
theorem abs_down (y : Nat) : fconv .f64 .f32 (fabs .f64 (fconv .f32 .f64 y)) = fabs .f32 y ∧ fover .f64 .f32 (fabs .f64 (fconv .f32 .f64 y)) = false := by
  change fconv .f64 .f32 (fabs .f64 (up y)) = fabs .f32 y ∧ fover .f64 .f32 (fabs .f64 (up y)) = false
  unfold fabs
  rw [fnan_up]
  cases hn : fnan .f32 y
  · simp only [Bool.false_eq_true, if_false]
    have hle := rng_le hn
    rcases Nat.lt_or_ge (rng Ieee.single y) Ieee.single.infRung with h | h
    · obtain ⟨_, h2, h3⟩ := up_number h
      have := down_exact (X := up y % Ieee.double.signWeight) (r := rng Ieee.single y) (by rw [rng_abs]; exact h2) h (by rw [rng_abs]; exact h3)
      rw [sgn_abs] at this
      exact this
    · have h' : rng Ieee.single y = Ieee.single.infRung := Nat.le_antisymm hle h
      rw [up_inf h']
      have e1 : Ieee.double.word (sgn Ieee.single y) Ieee.double.infRung % FloatKind.f64.format.signWeight = 9218868437227405312 := by cases sgn Ieee.single y <;> decide
      rw [e1]
      have e2 : y % FloatKind.f32.format.signWeight = 2139095040 := h'
      rw [e2]
      decide
  · simp only [if_true]
    decide

theorem sub_zero_left {y : Nat} (hn : fnan .f32 y = false) (h : sgn Ieee.single y = true ∨ rng Ieee.single y = 0) : fop .sub .f32 0 y = fabs .f32 y := by
  unfold fabs
  rw [hn]
  simp only [Bool.false_eq_true, if_false]
  have hle := rng_le hn
  have r0 : Ieee.single.read 0 = .number false 0 (-149) := by decide
  unfold fop floatBits Ieee.Format.sub
  rcases Nat.lt_or_ge (rng Ieee.single y) Ieee.single.infRung with hl | hl
  · obtain ⟨m, e, h1, h2⟩ := read_number Ieee.single hl
    have hlp : Ieee.single.leastPlace = -149 := by decide
    simp only [show FloatKind.f32.format = Ieee.single from rfl, r0, h1, Ieee.Datum.opposite, Ieee.Datum.sum, hlp, Option.map_some, Option.getD_some, signed_val]
    have hmin : min (-149 : Int) (-149 + (e : Nat)) = -149 := by omega
    rw [hmin]
    have e1 : (-149 + (e : Int) - -149).toNat = e := by omega
    rw [e1, h2]
    generalize hu : units Ieee.single (rng Ieee.single y) = u
    have hy : y % Ieee.single.signWeight = rng Ieee.single y := rfl
    rw [hy]
    show Ieee.single.nearest _ _ _ = _
    have hw : Ieee.single.word false (rng Ieee.single y) = rng Ieee.single y := rfl
    rcases h with h | h
    · rw [h]
      simp only [Bool.not_true, Bool.false_eq_true, if_false, Nat.zero_mul, Bool.false_and, Int.natCast_zero, Int.zero_add]
      have : (if (u : Int) = 0 then false else decide ((u : Int) < 0)) = false := by
        split
        · rfl
        · exact decide_eq_false (by omega)
      rw [this, ← hw]
      refine nearest_units Ieee.single false (a := 0) (b := 0) (Nat.le_of_lt hl) ?_ ?_
      · rw [hlp]
      · rw [hu]; simp
    · have hu0 : u = 0 := by rw [← hu]; exact (units_zero _).2 h
      subst hu0
      rw [h]
      cases sgn Ieee.single y <;> decide
  · have h' : rng Ieee.single y = Ieee.single.infRung := Nat.le_antisymm hle hl
    have hinf := read_inf .f32 (x := y) h'
    have h0 : sgn Ieee.single y = true := by
      rcases h with h | h
      · exact h
      · rw [h'] at h; exact absurd h (by decide)
    change Ieee.single.read y = _ at hinf
    simp only [show FloatKind.f32.format = Ieee.single from rfl, r0, hinf, Ieee.Datum.opposite, Ieee.Datum.sum, Option.map_some, Option.getD_some]
    have hy : y % Ieee.single.signWeight = Ieee.single.infRung := h'
    rw [hy, h0]
    decide
/-- y ≤ 0, of a number: it has the sign, or it is a zero. -/
theorem leq0_iff {y : Nat} (hn : fnan .f32 y = false) : fcmp .leq .f32 y 0 = true ↔ (sgn Ieee.single y = true ∨ rng Ieee.single y = 0) := by
  have hle := rng_le hn
  unfold fcmp
  rcases Nat.lt_or_ge (rng Ieee.single y) Ieee.single.infRung with h | h
  · rw [order_number (k := .f32) h (by decide)]
    have h0 : sval FloatKind.f32.format 0 = 0 := by decide
    rw [h0]
    unfold sval
    simp only [show FloatKind.f32.format = Ieee.single from rfl, Option.some_beq_some]
    have hz := units_zero Ieee.single (r := rng Ieee.single y)
    generalize units Ieee.single (rng Ieee.single y) = u at *
    cases sgn Ieee.single y
    · simp only [Bool.false_eq_true, if_false, false_or, Bool.or_eq_true, beq_iff_eq]
      rw [← hz, compare_eq]
      constructor
      · rintro (h | h)
        · have := Int.compare_eq_lt.1 h; omega
        · omega
      · intro h; right; omega
    · simp only [if_true, true_or, iff_true, Bool.or_eq_true, beq_iff_eq]
      rw [compare_eq]
      rcases Nat.eq_zero_or_pos u with h0 | h0
      · right; omega
      · left; exact Int.compare_eq_lt.2 (by omega)
  · have h' : rng Ieee.single y = Ieee.single.infRung := Nat.le_antisymm hle h
    have hinf := read_inf .f32 (x := y) h'
    have r0 : FloatKind.f32.format.read 0 = .number false 0 (-149) := by decide
    unfold Ieee.Format.order
    rw [hinf, r0]
    have hne : ¬ rng Ieee.single y = 0 := by rw [h']; decide
    simp only [show FloatKind.f32.format = Ieee.single from rfl, Ieee.Datum.order, hne, or_false]
    cases sgn Ieee.single y <;> decide
/-- The absolute value, as the reference makes it. -/
theorem abs_spec {y : Nat} (hy : Can .f32 y) : (if fcmp .leq .f32 y 0 then fop .sub .f32 0 y else y) = fabs .f32 y := by
  cases hn : fnan .f32 y
  · by_cases h : fcmp .leq .f32 y 0 = true
    · rw [if_pos h, sub_zero_left hn ((leq0_iff hn).1 h)]
    · rw [if_neg h]
      have h2 : ¬ (sgn Ieee.single y = true ∨ rng Ieee.single y = 0) := fun g => h ((leq0_iff hn).2 g)
      have hs : sgn Ieee.single y = false := by
        cases hs : sgn Ieee.single y
        · rfl
        · exact absurd (.inl hs) h2
      have hw := word_of .f32 hy.lt
      change Ieee.single.word (sgn Ieee.single y) (rng Ieee.single y) = y at hw
      rw [hs] at hw
      unfold fabs
      rw [hn]
      simp only [Bool.false_eq_true, if_false]
      exact hw.symm
  · have h1 : fcmp .leq .f32 y 0 = false := by
      unfold fcmp
      rw [order_nan_left hn]
      rfl
    rw [h1, fabs, hn]
    simp only [Bool.false_eq_true, if_false, if_true]
    exact hy.nan hn
theorem cb_abs64 (b : Nat) : cb .f64 (b % 9223372036854775808) = fabs .f64 (cb .f64 b) := by
  have e : ∀ x, fnan .f64 (x % 9223372036854775808) = fnan .f64 x := fnan_abs .f64
  unfold fabs
  rw [fnan_cb]
  cases hn : fnan .f64 b
  · rw [cb_num (by rw [e, hn]), cb_num hn]; rfl
  · rw [cb_of_nan (by rw [e, hn])]; rfl
end Go.Proofs.Ytacjcomjnabmhaa
