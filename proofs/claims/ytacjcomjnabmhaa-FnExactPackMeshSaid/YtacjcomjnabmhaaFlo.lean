/- Facts on floats: equal words, zeros, the wider kind has room. -/
import Derived.Test.YtacjcomjnabmhaaKit
namespace Go.Proofs.Ytacjcomjnabmhaa
open Go.RowKit

theorem pow_pos' (n : Nat) : 0 < 2 ^ n := Nat.pow_pos (by decide)

/-- how many units a rung stands for -/
def units (f : Ieee.Format) (r : Nat) : Nat := if r < f.binade then r else (f.binade + r % f.binade) * 2 ^ (r / f.binade - 1)

theorem units_bounds (f : Ieee.Format) {r : Nat} (h : f.binade ≤ r) : f.binade * 2 ^ (r / f.binade - 1) ≤ units f r ∧ units f r < f.binade * 2 ^ (r / f.binade) := by
  have hb : 0 < f.binade := pow_pos' _
  have hq : 1 ≤ r / f.binade := (Nat.le_div_iff_mul_le hb).2 (by omega)
  have hm := Nat.mod_lt r hb
  have hp := pow_pos' (r / f.binade - 1)
  unfold units
  rw [if_neg (by omega)]
  constructor
  · exact Nat.mul_le_mul_right _ (by omega)
  · have e : r / f.binade = (r / f.binade - 1) + 1 := by omega
    rw [e, Nat.pow_succ, Nat.add_sub_cancel, Nat.mul_comm (2 ^ (r / f.binade - 1)) 2, ← Nat.mul_assoc]
    exact Nat.mul_lt_mul_of_pos_right (by omega) hp

theorem units_inj (f : Ieee.Format) {r s : Nat} (h : units f r = units f s) : r = s := by
  have hb : 0 < f.binade := pow_pos' _
  have key : ∀ r s, r / f.binade < s / f.binade → units f r < units f s := by
    intro r s hlt
    have hs : f.binade ≤ s := by
      have := (Nat.le_div_iff_mul_le (x := 1) hb).1 (Nat.lt_of_le_of_lt (Nat.zero_le _) hlt)
      omega
    have h2 := (units_bounds f hs).1
    by_cases hr : r < f.binade
    · have : units f r = r := by unfold units; rw [if_pos hr]
      have hp := pow_pos' (s / f.binade - 1)
      have : f.binade ≤ f.binade * 2 ^ (s / f.binade - 1) := Nat.le_mul_of_pos_right _ hp
      omega
    · have h1 := (units_bounds f (Nat.le_of_not_lt hr)).2
      have : f.binade * 2 ^ (r / f.binade) ≤ f.binade * 2 ^ (s / f.binade - 1) := Nat.mul_le_mul_left _ (Nat.pow_le_pow_right (by decide) (by omega))
      omega
  rcases Nat.lt_trichotomy (r / f.binade) (s / f.binade) with hlt | heq | hgt
  · have := key r s hlt; omega
  · have h3 : r % f.binade = s % f.binade := by
      unfold units at h
      by_cases hr : r < f.binade
      · have hs : s < f.binade := by
          rw [Nat.div_eq_of_lt hr] at heq
          rcases Nat.lt_or_ge s f.binade with h' | h'
          · exact h'
          · have := (Nat.le_div_iff_mul_le (x := 1) (y := s) hb).2 (by omega); omega
        rw [if_pos hr, if_pos hs] at h
        rw [h]
      · have hs : ¬ s < f.binade := by
          intro hs
          rw [Nat.div_eq_of_lt hs] at heq
          have := (Nat.le_div_iff_mul_le (x := 1) (y := r) hb).2 (by omega); omega
        rw [if_neg hr, if_neg hs, heq] at h
        have := Nat.eq_of_mul_eq_mul_right (pow_pos' _) h
        omega
    have e1 := Nat.div_add_mod r f.binade
    have e2 := Nat.div_add_mod s f.binade
    rw [heq, h3] at e1
    omega
  · have := key s r hgt; omega

def sgn (f : Ieee.Format) (x : Nat) : Bool := x / f.signWeight % 2 == 1
def rng (f : Ieee.Format) (x : Nat) : Nat := x % f.signWeight

/-- A word that stands for a number: its mag and place, in units. -/
theorem read_number (f : Ieee.Format) {x : Nat} (h : rng f x < f.infRung) : ∃ m e, f.read x = .number (sgn f x) m (f.leastPlace + (e : Nat)) ∧ m * 2 ^ e = units f (rng f x) := by
  unfold Ieee.Format.read units rng at *
  simp only
  split
  · exact ⟨x % f.signWeight, 0, by simp [sgn], by simp⟩
  · exact ⟨f.binade + x % f.signWeight % f.binade, x % f.signWeight / f.binade - 1, rfl, rfl⟩
theorem binade_le (k : FloatKind) : k.format.binade ≤ k.format.infRung := by cases k <;> decide
theorem read_inf (k : FloatKind) {x : Nat} (h : rng k.format x = k.format.infRung) : k.format.read x = .infinity (sgn k.format x) := by
  have hb := binade_le k
  unfold Ieee.Format.read rng at *
  simp only
  rw [h, if_neg (by omega), if_neg (by omega), if_pos rfl]; rfl
theorem read_big (k : FloatKind) {x : Nat} (h : k.format.infRung < rng k.format x) : fnan k x = true := by
  have hb := binade_le k
  unfold fnan FloatKind.decode Ieee.Format.read rng at *
  simp only
  rw [if_neg (by omega), if_neg (by omega), if_neg (by omega)]; rfl
theorem word_eq (k : FloatKind) {x y : Nat} (hx : x < 2 ^ k.format.width) (hy : y < 2 ^ k.format.width) (hs : sgn k.format x = sgn k.format y) (hr : rng k.format x = rng k.format y) : x = y := by
  rw [width_pos] at hx hy
  have hp : 0 < k.format.signWeight := pow_pos' _
  unfold sgn at hs
  unfold rng at hr
  have h1 : x / k.format.signWeight < 2 := (Nat.div_lt_iff_lt_mul hp).2 hx
  have h2 : y / k.format.signWeight < 2 := (Nat.div_lt_iff_lt_mul hp).2 hy
  rw [Nat.mod_eq_of_lt h1, Nat.mod_eq_of_lt h2] at hs
  have h3 : x / k.format.signWeight = y / k.format.signWeight := by
    generalize x / k.format.signWeight = a at *
    generalize y / k.format.signWeight = b at *
    have ha : a = 0 ∨ a = 1 := by omega
    have hb : b = 0 ∨ b = 1 := by omega
    rcases ha with rfl | rfl <;> rcases hb with rfl | rfl <;> simp at hs <;> rfl
  have e1 := Nat.div_add_mod x k.format.signWeight
  have e2 := Nat.div_add_mod y k.format.signWeight
  rw [h3, hr] at e1
  omega

/-- a canonical word -/
def Can (k : FloatKind) (x : Nat) : Prop := cb k x = x ∧ x < 2 ^ k.format.width
theorem Can.lt {k : FloatKind} {x : Nat} (h : Can k x) : x < 2 ^ k.format.width := h.2
theorem Can.nan {k : FloatKind} {x : Nat} (h : Can k x) (hn : fnan k x = true) : x = qn k := by rw [← cb_of_nan hn]; exact h.1.symm
theorem can_cb (k : FloatKind) {x : Nat} (h : x < 2 ^ k.format.width) : Can k (cb k x) := ⟨cb_idem k x, cb_lt k h⟩

theorem rng_le {k : FloatKind} {x : Nat} (h : fnan k x = false) : rng k.format x ≤ k.format.infRung := by
  rcases Nat.lt_or_ge k.format.infRung (rng k.format x) with h' | h'
  · rw [read_big k h'] at h; cases h
  · exact h'

theorem signed_val (s : Bool) (m a : Nat) : Ieee.signed s m a = if s then -((m * 2 ^ a : Nat) : Int) else ((m * 2 ^ a : Nat) : Int) := by
  unfold Ieee.signed; rw [Nat.shiftLeft_eq]

/-- How two numbers compare, in units. -/
def sval (f : Ieee.Format) (x : Nat) : Int := if sgn f x then -(units f (rng f x) : Int) else (units f (rng f x) : Int)
theorem order_number {k : FloatKind} {x y : Nat} (hx : rng k.format x < k.format.infRung) (hy : rng k.format y < k.format.infRung) : k.format.order x y = some (compare (sval k.format x) (sval k.format y)) := by
  obtain ⟨m, a, h1, h2⟩ := read_number k.format hx
  obtain ⟨m', a', h3, h4⟩ := read_number k.format hy
  unfold Ieee.Format.order
  rw [h1, h3]
  simp only [Ieee.Datum.order, signed_val, Option.some.injEq]
  unfold sval
  rw [← h2, ← h4]
  -- the place that both have
  generalize hc : min a a' = c
  have e1 : (k.format.leastPlace + (a : Int) - min (k.format.leastPlace + (a : Int)) (k.format.leastPlace + (a' : Int))).toNat = a - c := by omega
  have e2 : (k.format.leastPlace + (a' : Int) - min (k.format.leastPlace + (a : Int)) (k.format.leastPlace + (a' : Int))).toNat = a' - c := by omega
  rw [e1, e2]
  have e3 : m * 2 ^ a = m * 2 ^ (a - c) * 2 ^ c := by rw [Nat.mul_assoc, ← Nat.pow_add]; congr 2; omega
  have e4 : m' * 2 ^ a' = m' * 2 ^ (a' - c) * 2 ^ c := by rw [Nat.mul_assoc, ← Nat.pow_add]; congr 2; omega
  rw [e3, e4]
  have hp : (0 : Int) < ((2 ^ c : Nat) : Int) := by exact_mod_cast pow_pos' c
  generalize m * 2 ^ (a - c) = u
  generalize m' * 2 ^ (a' - c) = v
  have key : ∀ p q : Int, compare p q = compare (p * ((2 ^ c : Nat) : Int)) (q * ((2 ^ c : Nat) : Int)) := by
    intro p q
    generalize ((2 ^ c : Nat) : Int) = t at hp
    simp only [compare, compareOfLessAndEq]
    have l1 : p < q ↔ p * t < q * t := ⟨fun h => Int.mul_lt_mul_of_pos_right h hp, fun h => Int.lt_of_mul_lt_mul_right h (Int.le_of_lt hp)⟩
    have l2 : p = q ↔ p * t = q * t := ⟨fun h => by rw [h], fun h => Int.eq_of_mul_eq_mul_right (Int.ne_of_gt hp) h⟩
    by_cases c1 : p < q
    · rw [if_pos c1, if_pos (l1.1 c1)]
    · rw [if_neg c1, if_neg (fun h => c1 (l1.2 h))]
      by_cases c2 : p = q
      · rw [if_pos c2, if_pos (l2.1 c2)]
      · rw [if_neg c2, if_neg (fun h => c2 (l2.2 h))]
  have hs : ∀ (s : Bool) (u : Nat), (if s = true then -((u * 2 ^ c : Nat) : Int) else ((u * 2 ^ c : Nat) : Int)) = (if s = true then -(u : Int) else (u : Int)) * ((2 ^ c : Nat) : Int) := by
    intro s u
    cases s
    · simp only [Bool.false_eq_true, if_false, Int.natCast_mul]
    · simp only [if_true, Int.natCast_mul, Int.neg_mul]
  rw [hs, hs, ← key]

theorem compare_eq {a b : Int} : compare a b = .eq ↔ a = b := by
  simp only [compare, compareOfLessAndEq]
  by_cases h : a < b
  · rw [if_pos h]; constructor
    · intro h'; cases h'
    · intro h'; omega
  · rw [if_neg h]
    by_cases h2 : a = b
    · rw [if_pos h2]; exact ⟨fun _ => h2, fun _ => rfl⟩
    · rw [if_neg h2]; constructor
      · intro h'; cases h'
      · intro h'; exact absurd h' h2

theorem order_self {k : FloatKind} {x : Nat} (h : fnan k x = false) : k.format.order x x = some .eq := by
  rcases Nat.lt_or_ge (rng k.format x) k.format.infRung with h' | h'
  · rw [order_number h' h', Option.some.injEq, compare_eq]
  · have := rng_le h
    have hr := read_inf k (x := x) (by omega)
    unfold Ieee.Format.order
    rw [hr]
    cases sgn k.format x <;> rfl

theorem fne_self (k : FloatKind) (x : Nat) : fcmp .neq k x x = fnan k x := by
  cases h : fnan k x
  · simp [fcmp, order_self h]
  · simp [fcmp, order_nan_left h]
theorem feq_self (k : FloatKind) (x : Nat) : fcmp .eql k x x = !fnan k x := by
  cases h : fnan k x
  · simp [fcmp, order_self h]
  · simp [fcmp, order_nan_left h]

/-- is it one of the zeros -/
def isz (k : FloatKind) (x : Nat) : Bool := rng k.format x == 0
theorem units_zero (f : Ieee.Format) {r : Nat} : units f r = 0 ↔ r = 0 := by
  constructor
  · intro h
    have h0 : units f 0 = 0 := by unfold units; rw [if_pos (show 0 < f.binade from pow_pos' _)]
    exact units_inj f (h.trans h0.symm)
  · intro h; subst h; unfold units; rw [if_pos (show 0 < f.binade from pow_pos' _)]

theorem feq_iff {k : FloatKind} {x y : Nat} (hx : Can k x) (hy : Can k y) : fcmp .eql k x y = true ↔ (fnan k x = false ∧ fnan k y = false ∧ (x = y ∨ (isz k x = true ∧ isz k y = true))) := by
  cases hnx : fnan k x
  · cases hny : fnan k y
    · simp only [fcmp, beq_iff_eq, true_and]
      have rx := rng_le hnx
      have ry := rng_le hny
      rcases Nat.lt_or_ge (rng k.format x) k.format.infRung with hx' | hx'
      · rcases Nat.lt_or_ge (rng k.format y) k.format.infRung with hy' | hy'
        · rw [order_number hx' hy', Option.some.injEq, compare_eq]
          unfold sval isz
          constructor
          · intro h
            by_cases hz : units k.format (rng k.format x) = 0
            · have h2 : units k.format (rng k.format y) = 0 := by
                rw [hz] at h
                generalize units k.format (rng k.format y) = v at *
                split at h <;> split at h <;> omega
              exact .inr ⟨by simpa using (units_zero _).1 hz, by simpa using (units_zero _).1 h2⟩
            · refine .inl (word_eq k hx.lt hy.lt ?_ ?_)
              · generalize units k.format (rng k.format x) = u at *
                generalize units k.format (rng k.format y) = v at *
                cases hs : sgn k.format x <;> cases ht : sgn k.format y <;> simp only [hs, ht, if_true, Bool.false_eq_true, if_false] at h ⊢ <;> omega
              · refine units_inj k.format ?_
                generalize units k.format (rng k.format x) = u at *
                generalize units k.format (rng k.format y) = v at *
                split at h <;> split at h <;> omega
          · rintro (rfl | ⟨h1, h2⟩)
            · rfl
            · simp only [beq_iff_eq] at h1 h2
              rw [h1, h2, (units_zero _).2 rfl]
              simp
        · have hy2 := read_inf k (x := y) (by omega)
          obtain ⟨m, a, h1, _⟩ := read_number k.format hx'
          have : k.format.order x y = some (if sgn k.format y then .gt else .lt) := by
            unfold Ieee.Format.order; rw [h1, hy2]; rfl
          rw [this]
          constructor
          · intro h; split at h <;> cases h
          · rintro (h | h)
            · subst h; omega
            · have h3 : rng k.format y = 0 := by simpa [isz] using h.2
              have := binade_le k
              have : 0 < k.format.binade := pow_pos' _
              omega
      · rcases Nat.lt_or_ge (rng k.format y) k.format.infRung with hy' | hy'
        · have hx2 := read_inf k (x := x) (by omega)
          obtain ⟨m, a, h1, _⟩ := read_number k.format hy'
          have : k.format.order x y = some (if sgn k.format x then .lt else .gt) := by
            unfold Ieee.Format.order; rw [h1, hx2]; rfl
          rw [this]
          constructor
          · intro h; split at h <;> cases h
          · rintro (h | h)
            · subst h; omega
            · have h3 : rng k.format x = 0 := by simpa [isz] using h.1
              have := binade_le k
              have : 0 < k.format.binade := pow_pos' _
              omega
        · have hx2 := read_inf k (x := x) (by omega)
          have hy2 := read_inf k (x := y) (by omega)
          have : k.format.order x y = some (compare (sgn k.format y).toNat (sgn k.format x).toNat) := by
            unfold Ieee.Format.order; rw [hx2, hy2]; rfl
          rw [this]
          constructor
          · intro h
            refine .inl (word_eq k hx.lt hy.lt ?_ (by omega))
            cases hs : sgn k.format x <;> cases ht : sgn k.format y <;> rw [hs, ht] at h <;> first | rfl | (exfalso; revert h; decide)
          · rintro (h | h)
            · subst h; cases sgn k.format x <;> rfl
            · have h3 : rng k.format x = 0 := by simpa [isz] using h.1
              have := binade_le k
              have : 0 < k.format.binade := pow_pos' _
              omega
    · simp [fcmp, order_nan_right hny]
  · simp [fcmp, order_nan_left hnx]

theorem zero_words (k : FloatKind) {x : Nat} (hx : Can k x) (h : isz k x = true) : x = 0 ∨ x = k.format.signWeight := by
  have hp : 0 < k.format.signWeight := pow_pos' _
  have hlt := hx.lt
  rw [width_pos] at hlt
  have h0 : x % k.format.signWeight = 0 := by simpa [isz, rng] using h
  have h1 : x / k.format.signWeight < 2 := (Nat.div_lt_iff_lt_mul hp).2 hlt
  have e1 := Nat.div_add_mod x k.format.signWeight
  rw [h0] at e1
  have : x / k.format.signWeight = 0 ∨ x / k.format.signWeight = 1 := by
    generalize x / k.format.signWeight = q at h1
    omega
  rcases this with h2 | h2 <;> rw [h2] at e1
  · left; omega
  · right; omega
theorem isz_of_feq0 {k : FloatKind} {x : Nat} (hx : Can k x) : fcmp .eql k x 0 = isz k x := by
  have h0 : Can k 0 := by unfold Can; cases k <;> decide
  have hz : isz k 0 = true := by simp [isz, rng]
  rw [Bool.eq_iff_iff, feq_iff hx h0]
  constructor
  · rintro ⟨_, _, rfl | h⟩
    · exact hz
    · exact h.1
  · intro h
    refine ⟨?_, by cases k <;> decide, .inr ⟨h, hz⟩⟩
    rcases zero_words k hx h with rfl | rfl <;> cases k <;> decide

/-! ### the wider kind has room -/
theorem fover_up (x : Nat) : fover .f32 .f64 x = false := by
  unfold fover
  rw [if_neg (by decide)]
  cases hr : FloatKind.f32.decode x with
  | nan s f => rfl
  | infinity s => rfl
  | number s m e =>
    -- what such a word reads as
    have hm : m < 2 ^ 24 ∧ -149 ≤ e ∧ e ≤ 104 := by
      have hsw : FloatKind.f32.format.signWeight = 2147483648 := by decide
      have hinf : FloatKind.f32.format.infRung = 2139095040 := by decide
      have hbin : FloatKind.f32.format.binade = 8388608 := by decide
      have hlp : FloatKind.f32.format.leastPlace = -149 := by decide
      unfold FloatKind.decode Ieee.Format.read at hr
      simp only [hsw, hinf, hbin, hlp] at hr
      split at hr
      · cases hr; omega
      · split at hr
        · cases hr
          have : x % 2147483648 / 8388608 ≤ 254 := by omega
          omega
        · split at hr <;> cases hr
    obtain ⟨h1, h2, h3⟩ := hm
    simp only
    have key : ∀ r, r < 9218868437227405312 → ((FloatKind.f64.decode (Ieee.double.word s r)).isInfinity) = false := by
      intro r hr
      have hsw : Ieee.double.signWeight = 9223372036854775808 := by decide
      have hinf : Ieee.double.infRung = 9218868437227405312 := by decide
      have e : Ieee.double.word s r % 9223372036854775808 = r := by
        unfold Ieee.Format.word; rw [hsw]; split <;> omega
      unfold FloatKind.decode FloatKind.format Ieee.Format.read
      simp only [hsw, hinf, e]
      by_cases h1 : r < Ieee.double.binade
      · rw [if_pos h1]; rfl
      · rw [if_neg h1, if_pos hr]; rfl
    show (FloatKind.f64.decode (Ieee.double.nearest s m e)).isInfinity = false
    unfold Ieee.Format.nearest
    have hfb : Ieee.double.fractionBits = 52 := rfl
    have hlp : Ieee.double.leastPlace = -1074 := by decide
    have hbin : Ieee.double.binade = 4503599627370496 := by decide
    have hinf : Ieee.double.infRung = 9218868437227405312 := by decide
    split
    · exact key 0 (by decide)
    · rename_i hm0
      have hl : m.log2 ≤ 23 := by
        have := (Nat.log2_lt hm0).2 h1
        omega
      simp only [hfb, hlp, hbin, hinf]
      have hlast : max (e + (m.log2 : Int) - ((52 : Nat) : Int)) (-1074) = e + (m.log2 : Int) - 52 := by omega
      rw [hlast]
      have e1 : (e - (e + (m.log2 : Int) - 52)).toNat = 52 - m.log2 := by omega
      have e2 : (e + (m.log2 : Int) - 52 - e).toNat = 0 := by omega
      rw [e1, e2]
      have hcut : ∀ n, Ieee.Toward.even.cut s n 0 = n := by
        intro n
        unfold Ieee.Toward.cut
        simp [Nat.mod_one]
      rw [hcut]
      refine key _ ?_
      have hk : m <<< (52 - m.log2) < 2 ^ 53 := by
        rw [Nat.shiftLeft_eq]
        have hlt : m < 2 ^ (m.log2 + 1) := Nat.lt_log2_self
        have : m * 2 ^ (52 - m.log2) < 2 ^ (m.log2 + 1) * 2 ^ (52 - m.log2) := Nat.mul_lt_mul_of_pos_right hlt (pow_pos' _)
        rw [← Nat.pow_add] at this
        have e3 : m.log2 + 1 + (52 - m.log2) = 53 := by omega
        rwa [e3] at this
      have e4 : (e + (m.log2 : Int) - 52 - -1074).toNat ≤ 1149 := by omega
      have e6 : (2 : Nat) ^ 53 = 9007199254740992 := by decide
      rw [e6] at hk
      exact room _ _ e4 hk
where
  room (a b : Nat) (ha : a ≤ 1149) (hb : b < 9007199254740992) : min (a * 4503599627370496 + b) 9218868437227405312 < 9218868437227405312 := by omega

theorem double_word (s : Bool) {r : Nat} (h : r < 9223372036854775808) : sgn Ieee.double (Ieee.double.word s r) = s ∧ rng Ieee.double (Ieee.double.word s r) = r := by
  have hsw : Ieee.double.signWeight = 9223372036854775808 := by decide
  unfold sgn rng Ieee.Format.word
  rw [hsw]
  cases s
  · simp only [Bool.false_eq_true, if_false]
    refine ⟨?_, Nat.mod_eq_of_lt h⟩
    rw [Nat.div_eq_of_lt h]; rfl
  · simp only [if_true]
    refine ⟨?_, ?_⟩
    · rw [Nat.add_div_left _ (by decide), Nat.div_eq_of_lt h]; rfl
    · rw [Nat.add_mod_left, Nat.mod_eq_of_lt h]

theorem min_room (a b : Nat) (ha : a ≤ 1149) (hb : b < 9007199254740992) : min (a * 4503599627370496 + b) 9218868437227405312 = a * 4503599627370496 + b := Nat.min_eq_left (by omega)
theorem sum_room (a b : Nat) (ha : a ≤ 1149) (hb : b < 9007199254740992) : a * 4503599627370496 + b < 9218868437227405312 := by omega
theorem ge_room (a b : Nat) (hb : 4503599627370496 ≤ b) : ¬ a * 4503599627370496 + b < 4503599627370496 := by omega
theorem div_room (B a b : Nat) (h1 : B ≤ b) (h2 : b < B + B) : (a * B + b) / B = a + 1 ∧ (a * B + b) % B = b - B := by
  have hB : 0 < B := by omega
  obtain ⟨t, rfl⟩ := Nat.exists_eq_add_of_le h1
  have e : a * B + (B + t) = t + (a + 1) * B := by rw [Nat.add_mul]; omega
  rw [e, Nat.add_mul_div_right _ _ hB, Nat.add_mul_mod_self_right, Nat.div_eq_of_lt (by omega), Nat.mod_eq_of_lt (by omega)]
  omega

/-- The exact word of a small number in the wider kind. -/
theorem nearest_exact (s : Bool) {m : Nat} {e : Int} (h1 : m < 2 ^ 24) (h2 : -149 ≤ e) (h3 : e ≤ 104) :
    ∃ r, Ieee.double.nearest s m e = Ieee.double.word s r ∧ r < 9218868437227405312 ∧ units Ieee.double r = m * 2 ^ (e + 1074).toNat := by
  unfold Ieee.Format.nearest
  have hfb : Ieee.double.fractionBits = 52 := rfl
  have hlp : Ieee.double.leastPlace = -1074 := by decide
  have hbin : Ieee.double.binade = 4503599627370496 := by decide
  have hinf : Ieee.double.infRung = 9218868437227405312 := by decide
  by_cases hm0 : m = 0
  · rw [if_pos hm0]
    refine ⟨0, rfl, by decide, ?_⟩
    subst hm0
    rw [Nat.zero_mul]
    exact (units_zero _).2 rfl
  · rw [if_neg hm0]
    have hl : m.log2 ≤ 23 := by
      have := (Nat.log2_lt hm0).2 h1
      omega
    have hlow : 2 ^ m.log2 ≤ m := Nat.log2_self_le hm0
    have hup : m < 2 ^ (m.log2 + 1) := Nat.lt_log2_self
    simp only [hfb, hlp, hbin, hinf]
    generalize m.log2 = l at *
    have hlast : max (e + (l : Int) - ((52 : Nat) : Int)) (-1074) = e + (l : Int) - 52 := by omega
    rw [hlast]
    have e1 : (e - (e + (l : Int) - 52)).toNat = 52 - l := by omega
    have e2 : (e + (l : Int) - 52 - e).toNat = 0 := by omega
    rw [e1, e2]
    have hcut : ∀ n, Ieee.Toward.even.cut s n 0 = n := by
      intro n
      unfold Ieee.Toward.cut
      simp [Nat.mod_one]
    rw [hcut, Nat.shiftLeft_eq]
    have hk2 : m * 2 ^ (52 - l) < 9007199254740992 := by
      have : m * 2 ^ (52 - l) < 2 ^ (l + 1) * 2 ^ (52 - l) := Nat.mul_lt_mul_of_pos_right hup (pow_pos' _)
      rw [← Nat.pow_add, show l + 1 + (52 - l) = 53 by omega] at this
      exact this
    have hk1 : 4503599627370496 ≤ m * 2 ^ (52 - l) := by
      have : 2 ^ l * 2 ^ (52 - l) ≤ m * 2 ^ (52 - l) := Nat.mul_le_mul_right _ hlow
      rw [← Nat.pow_add, show l + (52 - l) = 52 by omega] at this
      exact this
    have e4 : (e + (l : Int) - 52 - -1074).toNat ≤ 1149 := by omega
    have e6 : (e + 1074).toNat = (52 - l) + (e + (l : Int) - 52 - -1074).toNat := by omega
    rw [e6, Nat.pow_add, ← Nat.mul_assoc]
    generalize (e + (l : Int) - 52 - -1074).toNat = a at *
    generalize m * 2 ^ (52 - l) = b at *
    rw [min_room a b e4 hk2]
    refine ⟨_, rfl, sum_room a b e4 hk2, ?_⟩
    obtain ⟨q1, q2⟩ := div_room 4503599627370496 a b hk1 hk2
    unfold units
    rw [hbin, q1, q2, Nat.add_sub_cancel, Nat.add_sub_cancel' hk1, if_neg (ge_room a b hk1)]

theorem read32 {x : Nat} {s : Bool} {m : Nat} {e : Int} (hr : FloatKind.f32.decode x = .number s m e) : m < 2 ^ 24 ∧ -149 ≤ e ∧ e ≤ 104 := by
  have hsw : FloatKind.f32.format.signWeight = 2147483648 := by decide
  have hinf : FloatKind.f32.format.infRung = 2139095040 := by decide
  have hbin : FloatKind.f32.format.binade = 8388608 := by decide
  have hlp : FloatKind.f32.format.leastPlace = -149 := by decide
  unfold FloatKind.decode Ieee.Format.read at hr
  simp only [hsw, hinf, hbin, hlp] at hr
  split at hr
  · cases hr; omega
  · split at hr
    · cases hr
      have : x % 2147483648 / 8388608 ≤ 254 := by omega
      omega
    · split at hr <;> cases hr

/-- the number with those bits, in the wider kind -/
@[reducible] def up (x : Nat) : Nat := fconv .f32 .f64 x
def pow2 (n : Nat) : Nat := 2 ^ n
theorem pow2_add (a n : Nat) : 2 ^ (a + n) = 2 ^ a * pow2 n := Nat.pow_add 2 a n
theorem pow2_pos (n : Nat) : 0 < pow2 n := pow_pos' n
def upK : Nat := pow2 925
theorem upK_pos : 0 < upK := pow2_pos _
theorem up_number {x : Nat} (h : rng Ieee.single x < Ieee.single.infRung) : sgn Ieee.double (up x) = sgn Ieee.single x ∧ rng Ieee.double (up x) < Ieee.double.infRung ∧ units Ieee.double (rng Ieee.double (up x)) = units Ieee.single (rng Ieee.single x) * upK := by
  obtain ⟨m, a, h1, h2⟩ := read_number Ieee.single h
  have hlp : Ieee.single.leastPlace = -149 := by decide
  have hd : FloatKind.f32.decode x = .number (sgn Ieee.single x) m (-149 + (a : Int)) := by rw [← hlp]; exact h1
  obtain ⟨g1, g2, g3⟩ := read32 hd
  obtain ⟨r, r1, r2, r3⟩ := nearest_exact (sgn Ieee.single x) g1 g2 g3
  have hup : up x = Ieee.double.word (sgn Ieee.single x) r := by
    unfold up fconv
    rw [if_neg (by decide), hd]
    exact r1
  have hlt : r < 9223372036854775808 := by omega
  obtain ⟨w1, w2⟩ := double_word (sgn Ieee.single x) hlt
  have hinf : Ieee.double.infRung = 9218868437227405312 := by decide
  rw [hup, w1, w2, hinf]
  refine ⟨rfl, r2, ?_⟩
  rw [r3, ← h2, Nat.mul_assoc]
  have e1 : (-149 + (a : Int) + 1074).toNat = a + 925 := by omega
  rw [e1, pow2_add, upK]
theorem up_inf {x : Nat} (h : rng Ieee.single x = Ieee.single.infRung) : up x = Ieee.double.word (sgn Ieee.single x) Ieee.double.infRung := by
  unfold up fconv
  rw [if_neg (by decide)]
  have : FloatKind.f32.decode x = .infinity (sgn Ieee.single x) := read_inf .f32 h
  rw [this]; rfl
theorem up_nan {x : Nat} (h : fnan .f32 x = true) : up x = qn .f64 := by
  obtain ⟨s, f, hr⟩ := read_nan h
  unfold up fconv FloatKind.decode
  rw [if_neg (by decide), hr]
theorem fnan_up (x : Nat) : fnan .f64 (up x) = fnan .f32 x := by
  cases h : fnan .f32 x
  · have := rng_le h
    rcases Nat.lt_or_ge (rng Ieee.single x) Ieee.single.infRung with h' | h'
    · obtain ⟨_, h2, _⟩ := up_number h'
      obtain ⟨m, e, h3, _⟩ := read_number Ieee.double h2
      unfold fnan FloatKind.decode
      rw [show FloatKind.f64.format.read (up x) = _ from h3]; rfl
    · have h'' : rng Ieee.single x = Ieee.single.infRung := Nat.le_antisymm this h'
      rw [up_inf h'']
      cases sgn Ieee.single x <;> decide
  · rw [up_nan h, fnan_qn]
theorem up_inj {x y : Nat} (hx : Can .f32 x) (hy : Can .f32 y) (h : up x = up y) : x = y := by
  have hn : fnan .f32 x = fnan .f32 y := by rw [← fnan_up, ← fnan_up, h]
  have hw : Ieee.double.infRung < 9223372036854775808 := by decide
  cases hnx : fnan .f32 x
  · rw [hnx] at hn
    have lx := rng_le hnx
    have ly := rng_le hn.symm
    rcases Nat.lt_or_ge (rng Ieee.single x) Ieee.single.infRung with hx' | hx'
    · obtain ⟨a1, a2, a3⟩ := up_number hx'
      rcases Nat.lt_or_ge (rng Ieee.single y) Ieee.single.infRung with hy' | hy'
      · obtain ⟨b1, b2, b3⟩ := up_number hy'
        rw [h] at a1 a3
        refine word_eq .f32 hx.lt hy.lt (a1.symm.trans b1) (units_inj Ieee.single ?_)
        rw [a3] at b3
        exact Nat.eq_of_mul_eq_mul_right upK_pos b3
      · have hy2 := up_inf (x := y) (Nat.le_antisymm ly hy')
        have := (double_word (sgn Ieee.single y) hw).2
        rw [← hy2, ← h] at this
        omega
    · have hx2 := up_inf (x := x) (Nat.le_antisymm lx hx')
      rcases Nat.lt_or_ge (rng Ieee.single y) Ieee.single.infRung with hy' | hy'
      · obtain ⟨b1, b2, b3⟩ := up_number hy'
        have := (double_word (sgn Ieee.single x) hw).2
        rw [← hx2, h] at this
        omega
      · have hy2 := up_inf (x := y) (Nat.le_antisymm ly hy')
        have w1 := (double_word (sgn Ieee.single x) hw).1
        have w2 := (double_word (sgn Ieee.single y) hw).1
        rw [← hx2, h, hy2, w2] at w1
        exact word_eq .f32 hx.lt hy.lt w1.symm ((Nat.le_antisymm lx hx').trans (Nat.le_antisymm ly hy').symm)
  · rw [hnx] at hn
    rw [hx.nan hnx, hy.nan hn.symm]
theorem can_up (x : Nat) : Can .f64 (fconv .f32 .f64 x) := ⟨cb_fconv _ _ _ (by decide), fconv_lt _ _ _ (by decide)⟩
theorem can_fop (op : BinOp) (k : FloatKind) (x y : Nat) : Can k (fop op k x y) := ⟨cb_fop op k x y, fop_lt op k x y⟩
theorem up_beq {x y : Nat} (hx : Can .f32 x) (hy : Can .f32 y) : (fconv .f32 .f64 x == fconv .f32 .f64 y) = (x == y) := by
  rw [Bool.eq_iff_iff, beq_iff_eq, beq_iff_eq]
  exact ⟨up_inj hx hy, fun h => by rw [h]⟩

/-! ### the laws' own comparison -/
theorem same_nanx {k : FloatKind} {x y : Nat} (hx : Can k x) (hy : Can k y) (h : fnan k x = true) : fnan k y = (x == y) := by
  cases hn : fnan k y
  · symm; rw [beq_eq_false_iff_ne]; rintro rfl; rw [h] at hn; cases hn
  · rw [hx.nan h, hy.nan hn]; simp
theorem same_nany {k : FloatKind} {x y : Nat} (h : fnan k x = false) (hn : fnan k y = true) : (x == y) = false := by
  rw [beq_eq_false_iff_ne]; rintro rfl; rw [h] at hn; cases hn
theorem same_zero {x y : Nat} (hx : Can .f64 x) (hy : Can .f64 y) (h : isz .f64 x = true) (h' : isz .f64 y = true) :
    (fcmp .gtr .f64 (fop .quo .f64 4607182418800017408 x) 0 == fcmp .gtr .f64 (fop .quo .f64 4607182418800017408 y) 0) = (x == y) := by
  rcases zero_words .f64 hx h with rfl | rfl <;> rcases zero_words .f64 hy h' with rfl | rfl <;> decide
theorem same_eq {k : FloatKind} {x y : Nat} (hx : Can k x) (hy : Can k y) (h : fnan k x = false) (hn : fnan k y = false) (hz : isz k x = false ∨ isz k y = false) : fcmp .eql k x y = (x == y) := by
  rw [Bool.eq_iff_iff, feq_iff hx hy, beq_iff_eq]
  constructor
  · rintro ⟨_, _, rfl | ⟨h1, h2⟩⟩
    · rfl
    · rcases hz with hz | hz
      · rw [h1] at hz; cases hz
      · rw [h2] at hz; cases hz
  · intro e; exact ⟨h, hn, .inl e⟩

/-! ### marks -/
/-- n numbers from k on, as 32-bit words -/
def marks (k : Int) (n : Nat) : List Nat := (List.range n).map fun (i : Nat) => FloatKind.f32.nearest (k + (i : Int))
theorem marks_length (k : Int) (n : Nat) : (marks k n).length = n := by simp [marks]
theorem marks_get {k : Int} {n i : Nat} (h : i < n) : (marks k n).getD i 0 = FloatKind.f32.nearest (k + (i : Int)) := by simp [marks, h]
theorem can_nearest (k : FloatKind) (i : Int) : Can k (k.nearest i) := ⟨cb_of_num (nearest_num k i) (encode_lt _ _), encode_lt _ _⟩
theorem marks_can {k : Int} {n x : Nat} (h : x ∈ marks k n) : Can .f32 x := by
  obtain ⟨i, _, rfl⟩ := List.mem_map.1 h
  exact can_nearest _ _
theorem take_marks {ys : List Nat} {k : Int} {n i : Nat} (hl : ys.length = n) (ht : ys.take i = marks k i) (hi : i < n) : (ys.set i (FloatKind.f32.nearest (k + (i : Int)))).take (i + 1) = marks k (i + 1) := by
  apply List.ext_getElem?
  intro j
  have hj := congrArg (·[j]?) ht
  simp only [marks, List.getElem?_take, List.getElem?_map] at hj ⊢
  by_cases h1 : j < i
  · rw [if_pos h1, List.getElem?_range h1] at hj
    rw [if_pos (by omega), List.getElem?_set_ne (by omega), hj, List.getElem?_range (by omega)]
  · by_cases h2 : j = i
    · subst h2
      rw [if_pos (by omega), List.getElem?_set_self (by omega), List.getElem?_range (by omega)]; rfl
    · rw [if_neg (by omega), List.getElem?_eq_none (by simp; omega)]; rfl
theorem marks_all {ys : List Nat} {k : Int} {n i : Nat} (hl : ys.length = n) (ht : ys.take i = marks k i) (hi : n ≤ i) (hi' : i ≤ n) : ys = marks k n := by
  have e : i = n := Nat.le_antisymm hi' hi
  subst e
  rwa [List.take_of_length_le (by omega)] at ht

/-! ### words of the program -/
def fin (x : Nat) : Bool := fcmp .eql .f32 (fop .sub .f32 x x) 0
def above (x : Nat) : Bool := fin x && fcmp .gtr .f32 x 0
def least (x : Nat) : Bool := fin x && fcmp .geq .f32 x 0
end Go.Proofs.Ytacjcomjnabmhaa
