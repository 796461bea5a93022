/- Own texts of this claim, merged: Flo, Nar, Shut, Nest, Solve, Design, Bits, Exact, Draw, In, Root, Vec, Wire, Field, Flat, Line, FinA, PackA, Slice, Bytes, Mesh, PackB, PackC, Sharp, SharpB, SharpC, AbsA, Text, Unp, Narrow, UnpB, UnpC, UnpD, UnpE, UnpF. -/
import Derived.Deep.Slices
import Derived.Laws.Cover2
import Derived.Carry
import Derived.ProofKit
import Derived.Laws.BytesString
import Derived.Test.YtnommdpgmoljcaaKFnPackedMeshes1
namespace Go.Proofs.Ytnommdpgmoljcaa
open Go.RowKit

theorem pow_pos' (n : Nat) : 0 < 2 ^ n := Nat.pow_pos (by decide)

/-- how many units a rung stands for -/
def units (f : Ieee.Format) (r : Nat) : Nat := if r < f.binade then r else (f.binade + r % f.binade) * 2 ^ (r / f.binade - 1)

theorem units_bounds (f : Ieee.Format) {r : Nat} (h : f.binade ≤ r) : f.binade * 2 ^ (r / f.binade - 1) ≤ units f r ∧ units f r < f.binade * 2 ^ (r / f.binade) := by
  have hb : 0 < f.binade := pow_pos' _
  have hq : 1 ≤ r / f.binade := (Nat.le_div_iff_mul_le hb).2 (by omega)
  have hm := Nat.mod_lt r hb
  have hp := pow_pos' (r / f.binade - 1)
  unfold units
  rw [if_neg (by omega)]
  constructor
  · exact Nat.mul_le_mul_right _ (by omega)
  · have e : r / f.binade = (r / f.binade - 1) + 1 := by omega
    rw [e, Nat.pow_succ, Nat.add_sub_cancel, Nat.mul_comm (2 ^ (r / f.binade - 1)) 2, ← Nat.mul_assoc]
    exact Nat.mul_lt_mul_of_pos_right (by omega) hp

theorem units_inj (f : Ieee.Format) {r s : Nat} (h : units f r = units f s) : r = s := by
  have hb : 0 < f.binade := pow_pos' _
  have key : ∀ r s, r / f.binade < s / f.binade → units f r < units f s := by
    intro r s hlt
    have hs : f.binade ≤ s := by
      have := (Nat.le_div_iff_mul_le (x := 1) hb).1 (Nat.lt_of_le_of_lt (Nat.zero_le _) hlt)
      omega
    have h2 := (units_bounds f hs).1
    by_cases hr : r < f.binade
    · have : units f r = r := by unfold units; rw [if_pos hr]
      have hp := pow_pos' (s / f.binade - 1)
      have : f.binade ≤ f.binade * 2 ^ (s / f.binade - 1) := Nat.le_mul_of_pos_right _ hp
      omega
    · have h1 := (units_bounds f (Nat.le_of_not_lt hr)).2
      have : f.binade * 2 ^ (r / f.binade) ≤ f.binade * 2 ^ (s / f.binade - 1) := Nat.mul_le_mul_left _ (Nat.pow_le_pow_right (by decide) (by omega))
      omega
  rcases Nat.lt_trichotomy (r / f.binade) (s / f.binade) with hlt | heq | hgt
  · have := key r s hlt; omega
  · have h3 : r % f.binade = s % f.binade := by
      unfold units at h
      by_cases hr : r < f.binade
      · have hs : s < f.binade := by
          rw [Nat.div_eq_of_lt hr] at heq
          rcases Nat.lt_or_ge s f.binade with h' | h'
          · exact h'
          · have := (Nat.le_div_iff_mul_le (x := 1) (y := s) hb).2 (by omega); omega
        rw [if_pos hr, if_pos hs] at h
        rw [h]
      · have hs : ¬ s < f.binade := by
          intro hs
          rw [Nat.div_eq_of_lt hs] at heq
          have := (Nat.le_div_iff_mul_le (x := 1) (y := r) hb).2 (by omega); omega
        rw [if_neg hr, if_neg hs, heq] at h
        have := Nat.eq_of_mul_eq_mul_right (pow_pos' _) h
        omega
    have e1 := Nat.div_add_mod r f.binade
    have e2 := Nat.div_add_mod s f.binade
    rw [heq, h3] at e1
    omega
  · have := key s r hgt; omega

def sgn (f : Ieee.Format) (x : Nat) : Bool := x / f.signWeight % 2 == 1
def rng (f : Ieee.Format) (x : Nat) : Nat := x % f.signWeight

/-- A word that stands for a number: its mag and place, in units. -/
theorem read_number (f : Ieee.Format) {x : Nat} (h : rng f x < f.infRung) : ∃ m e, f.read x = .number (sgn f x) m (f.leastPlace + (e : Nat)) ∧ m * 2 ^ e = units f (rng f x) := by
  unfold Ieee.Format.read units rng at *
  simp only
  split
  · exact ⟨x % f.signWeight, 0, by simp [sgn], by simp⟩
  · exact ⟨f.binade + x % f.signWeight % f.binade, x % f.signWeight / f.binade - 1, rfl, rfl⟩
theorem binade_le (k : FloatKind) : k.format.binade ≤ k.format.infRung := by cases k <;> decide
theorem read_inf (k : FloatKind) {x : Nat} (h : rng k.format x = k.format.infRung) : k.format.read x = .infinity (sgn k.format x) := by
  have hb := binade_le k
  unfold Ieee.Format.read rng at *
  simp only
  rw [h, if_neg (by omega), if_neg (by omega), if_pos rfl]; rfl
theorem read_big (k : FloatKind) {x : Nat} (h : k.format.infRung < rng k.format x) : fnan k x = true := by
  have hb := binade_le k
  unfold fnan FloatKind.decode Ieee.Format.read rng at *
  simp only
  rw [if_neg (by omega), if_neg (by omega), if_neg (by omega)]; rfl
theorem word_eq (k : FloatKind) {x y : Nat} (hx : x < 2 ^ k.format.width) (hy : y < 2 ^ k.format.width) (hs : sgn k.format x = sgn k.format y) (hr : rng k.format x = rng k.format y) : x = y := by
  rw [width_pos] at hx hy
  have hp : 0 < k.format.signWeight := pow_pos' _
  unfold sgn at hs
  unfold rng at hr
  have h1 : x / k.format.signWeight < 2 := (Nat.div_lt_iff_lt_mul hp).2 hx
  have h2 : y / k.format.signWeight < 2 := (Nat.div_lt_iff_lt_mul hp).2 hy
  rw [Nat.mod_eq_of_lt h1, Nat.mod_eq_of_lt h2] at hs
  have h3 : x / k.format.signWeight = y / k.format.signWeight := by
    generalize x / k.format.signWeight = a at *
    generalize y / k.format.signWeight = b at *
    have ha : a = 0 ∨ a = 1 := by omega
    have hb : b = 0 ∨ b = 1 := by omega
    rcases ha with rfl | rfl <;> rcases hb with rfl | rfl <;> simp at hs <;> rfl
  have e1 := Nat.div_add_mod x k.format.signWeight
  have e2 := Nat.div_add_mod y k.format.signWeight
  rw [h3, hr] at e1
  omega

/-- a canonical word -/
def Can (k : FloatKind) (x : Nat) : Prop := cb k x = x ∧ x < 2 ^ k.format.width
theorem Can.lt {k : FloatKind} {x : Nat} (h : Can k x) : x < 2 ^ k.format.width := h.2
theorem Can.nan {k : FloatKind} {x : Nat} (h : Can k x) (hn : fnan k x = true) : x = qn k := by rw [← cb_of_nan hn]; exact h.1.symm
theorem can_cb (k : FloatKind) {x : Nat} (h : x < 2 ^ k.format.width) : Can k (cb k x) := ⟨cb_idem k x, cb_lt k h⟩

theorem rng_le {k : FloatKind} {x : Nat} (h : fnan k x = false) : rng k.format x ≤ k.format.infRung := by
  rcases Nat.lt_or_ge k.format.infRung (rng k.format x) with h' | h'
  · rw [read_big k h'] at h; cases h
  · exact h'

theorem signed_val (s : Bool) (m a : Nat) : Ieee.signed s m a = if s then -((m * 2 ^ a : Nat) : Int) else ((m * 2 ^ a : Nat) : Int) := by
  unfold Ieee.signed; rw [Nat.shiftLeft_eq]

/-- How two numbers compare, in units. -/
def sval (f : Ieee.Format) (x : Nat) : Int := if sgn f x then -(units f (rng f x) : Int) else (units f (rng f x) : Int)
theorem order_number {k : FloatKind} {x y : Nat} (hx : rng k.format x < k.format.infRung) (hy : rng k.format y < k.format.infRung) : k.format.order x y = some (compare (sval k.format x) (sval k.format y)) := by
  obtain ⟨m, a, h1, h2⟩ := read_number k.format hx
  obtain ⟨m', a', h3, h4⟩ := read_number k.format hy
  unfold Ieee.Format.order
  rw [h1, h3]
  simp only [Ieee.Datum.order, signed_val, Option.some.injEq]
  unfold sval
  rw [← h2, ← h4]
  -- the place that both have
  generalize hc : min a a' = c
  have e1 : (k.format.leastPlace + (a : Int) - min (k.format.leastPlace + (a : Int)) (k.format.leastPlace + (a' : Int))).toNat = a - c := by omega
  have e2 : (k.format.leastPlace + (a' : Int) - min (k.format.leastPlace + (a : Int)) (k.format.leastPlace + (a' : Int))).toNat = a' - c := by omega
  rw [e1, e2]
  have e3 : m * 2 ^ a = m * 2 ^ (a - c) * 2 ^ c := by rw [Nat.mul_assoc, ← Nat.pow_add]; congr 2; omega
  have e4 : m' * 2 ^ a' = m' * 2 ^ (a' - c) * 2 ^ c := by rw [Nat.mul_assoc, ← Nat.pow_add]; congr 2; omega
  rw [e3, e4]
  have hp : (0 : Int) < ((2 ^ c : Nat) : Int) := by exact_mod_cast pow_pos' c
  generalize m * 2 ^ (a - c) = u
  generalize m' * 2 ^ (a' - c) = v
  have key : ∀ p q : Int, compare p q = compare (p * ((2 ^ c : Nat) : Int)) (q * ((2 ^ c : Nat) : Int)) := by
    intro p q
    generalize ((2 ^ c : Nat) : Int) = t at hp
    simp only [compare, compareOfLessAndEq]
    have l1 : p < q ↔ p * t < q * t := ⟨fun h => Int.mul_lt_mul_of_pos_right h hp, fun h => Int.lt_of_mul_lt_mul_right h (Int.le_of_lt hp)⟩
    have l2 : p = q ↔ p * t = q * t := ⟨fun h => by rw [h], fun h => Int.eq_of_mul_eq_mul_right (Int.ne_of_gt hp) h⟩
    by_cases c1 : p < q
    · rw [if_pos c1, if_pos (l1.1 c1)]
    · rw [if_neg c1, if_neg (fun h => c1 (l1.2 h))]
      by_cases c2 : p = q
      · rw [if_pos c2, if_pos (l2.1 c2)]
      · rw [if_neg c2, if_neg (fun h => c2 (l2.2 h))]
  have hs : ∀ (s : Bool) (u : Nat), (if s = true then -((u * 2 ^ c : Nat) : Int) else ((u * 2 ^ c : Nat) : Int)) = (if s = true then -(u : Int) else (u : Int)) * ((2 ^ c : Nat) : Int) := by
    intro s u
    cases s
    · simp only [Bool.false_eq_true, if_false, Int.natCast_mul]
    · simp only [if_true, Int.natCast_mul, Int.neg_mul]
  rw [hs, hs, ← key]

theorem compare_eq {a b : Int} : compare a b = .eq ↔ a = b := by
  simp only [compare, compareOfLessAndEq]
  by_cases h : a < b
  · rw [if_pos h]; constructor
    · intro h'; cases h'
    · intro h'; omega
  · rw [if_neg h]
    by_cases h2 : a = b
    · rw [if_pos h2]; exact ⟨fun _ => h2, fun _ => rfl⟩
    · rw [if_neg h2]; constructor
      · intro h'; cases h'
      · intro h'; exact absurd h' h2

theorem order_self {k : FloatKind} {x : Nat} (h : fnan k x = false) : k.format.order x x = some .eq := by
  rcases Nat.lt_or_ge (rng k.format x) k.format.infRung with h' | h'
  · rw [order_number h' h', Option.some.injEq, compare_eq]
  · have := rng_le h
    have hr := read_inf k (x := x) (by omega)
    unfold Ieee.Format.order
    rw [hr]
    cases sgn k.format x <;> rfl

theorem fne_self (k : FloatKind) (x : Nat) : fcmp .neq k x x = fnan k x := by
  cases h : fnan k x
  · simp [fcmp, order_self h]
  · simp [fcmp, order_nan_left h]
theorem feq_self (k : FloatKind) (x : Nat) : fcmp .eql k x x = !fnan k x := by
  cases h : fnan k x
  · simp [fcmp, order_self h]
  · simp [fcmp, order_nan_left h]

/-- is it one of the zeros -/
def isz (k : FloatKind) (x : Nat) : Bool := rng k.format x == 0
theorem units_zero (f : Ieee.Format) {r : Nat} : units f r = 0 ↔ r = 0 := by
  constructor
  · intro h
    have h0 : units f 0 = 0 := by unfold units; rw [if_pos (show 0 < f.binade from pow_pos' _)]
    exact units_inj f (h.trans h0.symm)
  · intro h; subst h; unfold units; rw [if_pos (show 0 < f.binade from pow_pos' _)]

theorem feq_iff {k : FloatKind} {x y : Nat} (hx : Can k x) (hy : Can k y) : fcmp .eql k x y = true ↔ (fnan k x = false ∧ fnan k y = false ∧ (x = y ∨ (isz k x = true ∧ isz k y = true))) := by
  cases hnx : fnan k x
  · cases hny : fnan k y
    · simp only [fcmp, beq_iff_eq, true_and]
      have rx := rng_le hnx
      have ry := rng_le hny
      rcases Nat.lt_or_ge (rng k.format x) k.format.infRung with hx' | hx'
      · rcases Nat.lt_or_ge (rng k.format y) k.format.infRung with hy' | hy'
        · rw [order_number hx' hy', Option.some.injEq, compare_eq]
          unfold sval isz
          constructor
          · intro h
            by_cases hz : units k.format (rng k.format x) = 0
            · have h2 : units k.format (rng k.format y) = 0 := by
                rw [hz] at h
                generalize units k.format (rng k.format y) = v at *
                split at h <;> split at h <;> omega
              exact .inr ⟨by simpa using (units_zero _).1 hz, by simpa using (units_zero _).1 h2⟩
            · refine .inl (word_eq k hx.lt hy.lt ?_ ?_)
              · generalize units k.format (rng k.format x) = u at *
                generalize units k.format (rng k.format y) = v at *
                cases hs : sgn k.format x <;> cases ht : sgn k.format y <;> simp only [hs, ht, if_true, Bool.false_eq_true, if_false] at h ⊢ <;> omega
              · refine units_inj k.format ?_
                generalize units k.format (rng k.format x) = u at *
                generalize units k.format (rng k.format y) = v at *
                split at h <;> split at h <;> omega
          · rintro (rfl | ⟨h1, h2⟩)
            · rfl
            · simp only [beq_iff_eq] at h1 h2
              rw [h1, h2, (units_zero _).2 rfl]
              simp
        · have hy2 := read_inf k (x := y) (by omega)
          obtain ⟨m, a, h1, _⟩ := read_number k.format hx'
          have : k.format.order x y = some (if sgn k.format y then .gt else .lt) := by
            unfold Ieee.Format.order; rw [h1, hy2]; rfl
          rw [this]
          constructor
          · intro h; split at h <;> cases h
          · rintro (h | h)
            · subst h; omega
            · have h3 : rng k.format y = 0 := by simpa [isz] using h.2
              have := binade_le k
              have : 0 < k.format.binade := pow_pos' _
              omega
      · rcases Nat.lt_or_ge (rng k.format y) k.format.infRung with hy' | hy'
        · have hx2 := read_inf k (x := x) (by omega)
          obtain ⟨m, a, h1, _⟩ := read_number k.format hy'
          have : k.format.order x y = some (if sgn k.format x then .lt else .gt) := by
            unfold Ieee.Format.order; rw [h1, hx2]; rfl
          rw [this]
          constructor
          · intro h; split at h <;> cases h
          · rintro (h | h)
            · subst h; omega
            · have h3 : rng k.format x = 0 := by simpa [isz] using h.1
              have := binade_le k
              have : 0 < k.format.binade := pow_pos' _
              omega
        · have hx2 := read_inf k (x := x) (by omega)
          have hy2 := read_inf k (x := y) (by omega)
          have : k.format.order x y = some (compare (sgn k.format y).toNat (sgn k.format x).toNat) := by
            unfold Ieee.Format.order; rw [hx2, hy2]; rfl
          rw [this]
          constructor
          · intro h
            refine .inl (word_eq k hx.lt hy.lt ?_ (by omega))
            cases hs : sgn k.format x <;> cases ht : sgn k.format y <;> rw [hs, ht] at h <;> first | rfl | (exfalso; revert h; decide)
          · rintro (h | h)
            · subst h; cases sgn k.format x <;> rfl
            · have h3 : rng k.format x = 0 := by simpa [isz] using h.1
              have := binade_le k
              have : 0 < k.format.binade := pow_pos' _
              omega
    · simp [fcmp, order_nan_right hny]
  · simp [fcmp, order_nan_left hnx]

theorem zero_words (k : FloatKind) {x : Nat} (hx : Can k x) (h : isz k x = true) : x = 0 ∨ x = k.format.signWeight := by
  have hp : 0 < k.format.signWeight := pow_pos' _
  have hlt := hx.lt
  rw [width_pos] at hlt
  have h0 : x % k.format.signWeight = 0 := by simpa [isz, rng] using h
  have h1 : x / k.format.signWeight < 2 := (Nat.div_lt_iff_lt_mul hp).2 hlt
  have e1 := Nat.div_add_mod x k.format.signWeight
  rw [h0] at e1
  have : x / k.format.signWeight = 0 ∨ x / k.format.signWeight = 1 := by
    generalize x / k.format.signWeight = q at h1
    omega
  rcases this with h2 | h2 <;> rw [h2] at e1
  · left; omega
  · right; omega
/-! ### the wider kind has room -/
theorem fover_up (x : Nat) : fover .f32 .f64 x = false := by
  unfold fover
  rw [if_neg (by decide)]
  cases hr : FloatKind.f32.decode x with
  | nan s f => rfl
  | infinity s => rfl
  | number s m e =>
    -- what such a word reads as
    have hm : m < 2 ^ 24 ∧ -149 ≤ e ∧ e ≤ 104 := by
      have hsw : FloatKind.f32.format.signWeight = 2147483648 := by decide
      have hinf : FloatKind.f32.format.infRung = 2139095040 := by decide
      have hbin : FloatKind.f32.format.binade = 8388608 := by decide
      have hlp : FloatKind.f32.format.leastPlace = -149 := by decide
      unfold FloatKind.decode Ieee.Format.read at hr
      simp only [hsw, hinf, hbin, hlp] at hr
      split at hr
      · cases hr; omega
      · split at hr
        · cases hr
          have : x % 2147483648 / 8388608 ≤ 254 := by omega
          omega
        · split at hr <;> cases hr
    obtain ⟨h1, h2, h3⟩ := hm
    simp only
    have key : ∀ r, r < 9218868437227405312 → ((FloatKind.f64.decode (Ieee.double.word s r)).isInfinity) = false := by
      intro r hr
      have hsw : Ieee.double.signWeight = 9223372036854775808 := by decide
      have hinf : Ieee.double.infRung = 9218868437227405312 := by decide
      have e : Ieee.double.word s r % 9223372036854775808 = r := by
        unfold Ieee.Format.word; rw [hsw]; split <;> omega
      unfold FloatKind.decode FloatKind.format Ieee.Format.read
      simp only [hsw, hinf, e]
      by_cases h1 : r < Ieee.double.binade
      · rw [if_pos h1]; rfl
      · rw [if_neg h1, if_pos hr]; rfl
    show (FloatKind.f64.decode (Ieee.double.nearest s m e)).isInfinity = false
    unfold Ieee.Format.nearest
    have hfb : Ieee.double.fractionBits = 52 := rfl
    have hlp : Ieee.double.leastPlace = -1074 := by decide
    have hbin : Ieee.double.binade = 4503599627370496 := by decide
    have hinf : Ieee.double.infRung = 9218868437227405312 := by decide
    split
    · exact key 0 (by decide)
    · rename_i hm0
      have hl : m.log2 ≤ 23 := by
        have := (Nat.log2_lt hm0).2 h1
        omega
      simp only [hfb, hlp, hbin, hinf]
      have hlast : max (e + (m.log2 : Int) - ((52 : Nat) : Int)) (-1074) = e + (m.log2 : Int) - 52 := by omega
      rw [hlast]
      have e1 : (e - (e + (m.log2 : Int) - 52)).toNat = 52 - m.log2 := by omega
      have e2 : (e + (m.log2 : Int) - 52 - e).toNat = 0 := by omega
      rw [e1, e2]
      have hcut : ∀ n, Ieee.Toward.even.cut s n 0 = n := by
        intro n
        unfold Ieee.Toward.cut
        simp [Nat.mod_one]
      rw [hcut]
      refine key _ ?_
      have hk : m <<< (52 - m.log2) < 2 ^ 53 := by
        rw [Nat.shiftLeft_eq]
        have hlt : m < 2 ^ (m.log2 + 1) := Nat.lt_log2_self
        have : m * 2 ^ (52 - m.log2) < 2 ^ (m.log2 + 1) * 2 ^ (52 - m.log2) := Nat.mul_lt_mul_of_pos_right hlt (pow_pos' _)
        rw [← Nat.pow_add] at this
        have e3 : m.log2 + 1 + (52 - m.log2) = 53 := by omega
        rwa [e3] at this
      have e4 : (e + (m.log2 : Int) - 52 - -1074).toNat ≤ 1149 := by omega
      have e6 : (2 : Nat) ^ 53 = 9007199254740992 := by decide
      rw [e6] at hk
      exact room _ _ e4 hk
where
  room (a b : Nat) (ha : a ≤ 1149) (hb : b < 9007199254740992) : min (a * 4503599627370496 + b) 9218868437227405312 < 9218868437227405312 := by omega

theorem double_word (s : Bool) {r : Nat} (h : r < 9223372036854775808) : sgn Ieee.double (Ieee.double.word s r) = s ∧ rng Ieee.double (Ieee.double.word s r) = r := by
  have hsw : Ieee.double.signWeight = 9223372036854775808 := by decide
  unfold sgn rng Ieee.Format.word
  rw [hsw]
  cases s
  · simp only [Bool.false_eq_true, if_false]
    refine ⟨?_, Nat.mod_eq_of_lt h⟩
    rw [Nat.div_eq_of_lt h]; rfl
  · simp only [if_true]
    refine ⟨?_, ?_⟩
    · rw [Nat.add_div_left _ (by decide), Nat.div_eq_of_lt h]; rfl
    · rw [Nat.add_mod_left, Nat.mod_eq_of_lt h]

theorem min_room (a b : Nat) (ha : a ≤ 1149) (hb : b < 9007199254740992) : min (a * 4503599627370496 + b) 9218868437227405312 = a * 4503599627370496 + b := Nat.min_eq_left (by omega)
theorem sum_room (a b : Nat) (ha : a ≤ 1149) (hb : b < 9007199254740992) : a * 4503599627370496 + b < 9218868437227405312 := by omega
theorem ge_room (a b : Nat) (hb : 4503599627370496 ≤ b) : ¬ a * 4503599627370496 + b < 4503599627370496 := by omega
theorem div_room (B a b : Nat) (h1 : B ≤ b) (h2 : b < B + B) : (a * B + b) / B = a + 1 ∧ (a * B + b) % B = b - B := by
  have hB : 0 < B := by omega
  obtain ⟨t, rfl⟩ := Nat.exists_eq_add_of_le h1
  have e : a * B + (B + t) = t + (a + 1) * B := by rw [Nat.add_mul]; omega
  rw [e, Nat.add_mul_div_right _ _ hB, Nat.add_mul_mod_self_right, Nat.div_eq_of_lt (by omega), Nat.mod_eq_of_lt (by omega)]
  omega

/-- The exact word of a small number in the wider kind. -/
theorem nearest_exact (s : Bool) {m : Nat} {e : Int} (h1 : m < 2 ^ 24) (h2 : -149 ≤ e) (h3 : e ≤ 104) :
    ∃ r, Ieee.double.nearest s m e = Ieee.double.word s r ∧ r < 9218868437227405312 ∧ units Ieee.double r = m * 2 ^ (e + 1074).toNat := by
  unfold Ieee.Format.nearest
  have hfb : Ieee.double.fractionBits = 52 := rfl
  have hlp : Ieee.double.leastPlace = -1074 := by decide
  have hbin : Ieee.double.binade = 4503599627370496 := by decide
  have hinf : Ieee.double.infRung = 9218868437227405312 := by decide
  by_cases hm0 : m = 0
  · rw [if_pos hm0]
    refine ⟨0, rfl, by decide, ?_⟩
    subst hm0
    rw [Nat.zero_mul]
    exact (units_zero _).2 rfl
  · rw [if_neg hm0]
    have hl : m.log2 ≤ 23 := by
      have := (Nat.log2_lt hm0).2 h1
      omega
    have hlow : 2 ^ m.log2 ≤ m := Nat.log2_self_le hm0
    have hup : m < 2 ^ (m.log2 + 1) := Nat.lt_log2_self
    simp only [hfb, hlp, hbin, hinf]
    generalize m.log2 = l at *
    have hlast : max (e + (l : Int) - ((52 : Nat) : Int)) (-1074) = e + (l : Int) - 52 := by omega
    rw [hlast]
    have e1 : (e - (e + (l : Int) - 52)).toNat = 52 - l := by omega
    have e2 : (e + (l : Int) - 52 - e).toNat = 0 := by omega
    rw [e1, e2]
    have hcut : ∀ n, Ieee.Toward.even.cut s n 0 = n := by
      intro n
      unfold Ieee.Toward.cut
      simp [Nat.mod_one]
    rw [hcut, Nat.shiftLeft_eq]
    have hk2 : m * 2 ^ (52 - l) < 9007199254740992 := by
      have : m * 2 ^ (52 - l) < 2 ^ (l + 1) * 2 ^ (52 - l) := Nat.mul_lt_mul_of_pos_right hup (pow_pos' _)
      rw [← Nat.pow_add, show l + 1 + (52 - l) = 53 by omega] at this
      exact this
    have hk1 : 4503599627370496 ≤ m * 2 ^ (52 - l) := by
      have : 2 ^ l * 2 ^ (52 - l) ≤ m * 2 ^ (52 - l) := Nat.mul_le_mul_right _ hlow
      rw [← Nat.pow_add, show l + (52 - l) = 52 by omega] at this
      exact this
    have e4 : (e + (l : Int) - 52 - -1074).toNat ≤ 1149 := by omega
    have e6 : (e + 1074).toNat = (52 - l) + (e + (l : Int) - 52 - -1074).toNat := by omega
    rw [e6, Nat.pow_add, ← Nat.mul_assoc]
    generalize (e + (l : Int) - 52 - -1074).toNat = a at *
    generalize m * 2 ^ (52 - l) = b at *
    rw [min_room a b e4 hk2]
    refine ⟨_, rfl, sum_room a b e4 hk2, ?_⟩
    obtain ⟨q1, q2⟩ := div_room 4503599627370496 a b hk1 hk2
    unfold units
    rw [hbin, q1, q2, Nat.add_sub_cancel, Nat.add_sub_cancel' hk1, if_neg (ge_room a b hk1)]

theorem read32 {x : Nat} {s : Bool} {m : Nat} {e : Int} (hr : FloatKind.f32.decode x = .number s m e) : m < 2 ^ 24 ∧ -149 ≤ e ∧ e ≤ 104 := by
  have hsw : FloatKind.f32.format.signWeight = 2147483648 := by decide
  have hinf : FloatKind.f32.format.infRung = 2139095040 := by decide
  have hbin : FloatKind.f32.format.binade = 8388608 := by decide
  have hlp : FloatKind.f32.format.leastPlace = -149 := by decide
  unfold FloatKind.decode Ieee.Format.read at hr
  simp only [hsw, hinf, hbin, hlp] at hr
  split at hr
  · cases hr; omega
  · split at hr
    · cases hr
      have : x % 2147483648 / 8388608 ≤ 254 := by omega
      omega
    · split at hr <;> cases hr

/-- the number with those bits, in the wider kind -/
@[reducible] def up (x : Nat) : Nat := fconv .f32 .f64 x
def pow2 (n : Nat) : Nat := 2 ^ n
theorem pow2_add (a n : Nat) : 2 ^ (a + n) = 2 ^ a * pow2 n := Nat.pow_add 2 a n
theorem pow2_pos (n : Nat) : 0 < pow2 n := pow_pos' n
def upK : Nat := pow2 925
theorem upK_pos : 0 < upK := pow2_pos _
theorem up_number {x : Nat} (h : rng Ieee.single x < Ieee.single.infRung) : sgn Ieee.double (up x) = sgn Ieee.single x ∧ rng Ieee.double (up x) < Ieee.double.infRung ∧ units Ieee.double (rng Ieee.double (up x)) = units Ieee.single (rng Ieee.single x) * upK := by
  obtain ⟨m, a, h1, h2⟩ := read_number Ieee.single h
  have hlp : Ieee.single.leastPlace = -149 := by decide
  have hd : FloatKind.f32.decode x = .number (sgn Ieee.single x) m (-149 + (a : Int)) := by rw [← hlp]; exact h1
  obtain ⟨g1, g2, g3⟩ := read32 hd
  obtain ⟨r, r1, r2, r3⟩ := nearest_exact (sgn Ieee.single x) g1 g2 g3
  have hup : up x = Ieee.double.word (sgn Ieee.single x) r := by
    unfold up fconv
    rw [if_neg (by decide), hd]
    exact r1
  have hlt : r < 9223372036854775808 := by omega
  obtain ⟨w1, w2⟩ := double_word (sgn Ieee.single x) hlt
  have hinf : Ieee.double.infRung = 9218868437227405312 := by decide
  rw [hup, w1, w2, hinf]
  refine ⟨rfl, r2, ?_⟩
  rw [r3, ← h2, Nat.mul_assoc]
  have e1 : (-149 + (a : Int) + 1074).toNat = a + 925 := by omega
  rw [e1, pow2_add, upK]
theorem up_inf {x : Nat} (h : rng Ieee.single x = Ieee.single.infRung) : up x = Ieee.double.word (sgn Ieee.single x) Ieee.double.infRung := by
  unfold up fconv
  rw [if_neg (by decide)]
  have : FloatKind.f32.decode x = .infinity (sgn Ieee.single x) := read_inf .f32 h
  rw [this]; rfl
theorem up_nan {x : Nat} (h : fnan .f32 x = true) : up x = qn .f64 := by
  obtain ⟨s, f, hr⟩ := read_nan h
  unfold up fconv FloatKind.decode
  rw [if_neg (by decide), hr]
theorem fnan_up (x : Nat) : fnan .f64 (up x) = fnan .f32 x := by
  cases h : fnan .f32 x
  · have := rng_le h
    rcases Nat.lt_or_ge (rng Ieee.single x) Ieee.single.infRung with h' | h'
    · obtain ⟨_, h2, _⟩ := up_number h'
      obtain ⟨m, e, h3, _⟩ := read_number Ieee.double h2
      unfold fnan FloatKind.decode
      rw [show FloatKind.f64.format.read (up x) = _ from h3]; rfl
    · have h'' : rng Ieee.single x = Ieee.single.infRung := Nat.le_antisymm this h'
      rw [up_inf h'']
      cases sgn Ieee.single x <;> decide
  · rw [up_nan h, fnan_qn]
theorem can_fop (op : BinOp) (k : FloatKind) (x y : Nat) : Can k (fop op k x y) := ⟨cb_fop op k x y, fop_lt op k x y⟩
/-! ### the laws' own comparison -/
theorem same_nanx {k : FloatKind} {x y : Nat} (hx : Can k x) (hy : Can k y) (h : fnan k x = true) : fnan k y = (x == y) := by
  cases hn : fnan k y
  · symm; rw [beq_eq_false_iff_ne]; rintro rfl; rw [h] at hn; cases hn
  · rw [hx.nan h, hy.nan hn]; simp
theorem same_nany {k : FloatKind} {x y : Nat} (h : fnan k x = false) (hn : fnan k y = true) : (x == y) = false := by
  rw [beq_eq_false_iff_ne]; rintro rfl; rw [h] at hn; cases hn
/-! ### marks -/
/-- n numbers from k on, as 32-bit words -/
def marks (k : Int) (n : Nat) : List Nat := (List.range n).map fun (i : Nat) => FloatKind.f32.nearest (k + (i : Int))
/-! ### words of the program -/
def fin (x : Nat) : Bool := fcmp .eql .f32 (fop .sub .f32 x x) 0
def above (x : Nat) : Bool := fin x && fcmp .gtr .f32 x 0
def least (x : Nat) : Bool := fin x && fcmp .geq .f32 x 0
end Go.Proofs.Ytnommdpgmoljcaa


namespace Go.Proofs.Ytnommdpgmoljcaa
open Go.RowKit

theorem shl_eq (a b : Nat) : a <<< b = a * 2 ^ b := Nat.shiftLeft_eq a b
theorem log2_mul_pow {m : Nat} (h : m ≠ 0) (k : Nat) : (m * 2 ^ k).log2 = m.log2 + k := by
  have h1 := Nat.log2_self_le h
  have h2 : m < 2 ^ (m.log2 + 1) := Nat.lt_log2_self
  have hne : m * 2 ^ k ≠ 0 := Nat.mul_ne_zero h (Nat.ne_of_gt (pow_pos' k))
  apply Nat.le_antisymm
  · have : m * 2 ^ k < 2 ^ (m.log2 + k + 1) := by
      rw [show m.log2 + k + 1 = (m.log2 + 1) + k by omega, Nat.pow_add]
      exact Nat.mul_lt_mul_of_pos_right h2 (pow_pos' k)
    have := (Nat.log2_lt hne).2 this
    omega
  · rw [Nat.le_log2 hne, Nat.pow_add]
    exact Nat.mul_le_mul_right _ h1

/-- What is cut is at most one more than the quotient. -/
theorem cut_le (s : Bool) (n drop : Nat) : Ieee.Toward.even.cut s n drop ≤ n / 2 ^ min drop (n.log2 + 2) + 1 := by
  unfold Ieee.Toward.cut
  simp only [shl_eq, Nat.one_mul]
  generalize n / 2 ^ min drop (n.log2 + 2) = q
  have : ∀ b : Bool, q + b.toNat ≤ q + 1 := fun b => by cases b <;> simp
  exact this _
theorem cut_zero (s : Bool) (n : Nat) : Ieee.Toward.even.cut s n 0 = n := by
  unfold Ieee.Toward.cut
  simp [Nat.mod_one]
theorem cut_exact (s : Bool) (a d : Nat) (ha : a ≠ 0) : Ieee.Toward.even.cut s (a * 2 ^ d) d = a := by
  unfold Ieee.Toward.cut
  have hl := log2_mul_pow ha d
  have hmin : min d ((a * 2 ^ d).log2 + 2) = d := by rw [hl]; omega
  simp only [shl_eq, Nat.one_mul, hmin]
  have h1 : a * 2 ^ d / 2 ^ d = a := Nat.mul_div_cancel _ (pow_pos' d)
  have h2 : a * 2 ^ d % 2 ^ d = 0 := Nat.mul_mod_left _ _
  rw [h1, h2]
  have hp := pow_pos' d
  have : (decide (2 ^ d < 2 * 0) || 2 ^ d == 2 * 0 && a % 2 == 1) = false := by
    have : (2 ^ d == 2 * 0) = false := by rw [beq_eq_false_iff_ne]; omega
    rw [this]; simp
  rw [this]; rfl

/-- the kept digits of a number are at most 2 ^ (fraction bits + 1) -/
theorem kept_le (s : Bool) {m f : Nat} {place last : Int} (h : place + m.log2 - f ≤ last) : Ieee.Toward.even.cut s (m <<< (place - last).toNat) (last - place).toNat ≤ 2 ^ (f + 1) := by
  have hup : m < 2 ^ (m.log2 + 1) := Nat.lt_log2_self
  rcases Int.le_total last place with hle | hle
  · have e1 : (last - place).toNat = 0 := by omega
    rw [e1, cut_zero, shl_eq]
    have : m * 2 ^ (place - last).toNat < 2 ^ (m.log2 + 1) * 2 ^ (place - last).toNat := Nat.mul_lt_mul_of_pos_right hup (pow_pos' _)
    rw [← Nat.pow_add] at this
    have h3 : 2 ^ (m.log2 + 1 + (place - last).toNat) ≤ 2 ^ (f + 1) := Nat.pow_le_pow_right (by decide) (by omega)
    omega
  · have e1 : (place - last).toNat = 0 := by omega
    rw [e1, shl_eq, Nat.pow_zero, Nat.mul_one]
    refine Nat.le_trans (cut_le s m _) ?_
    generalize hd : (last - place).toNat = d
    have hfd : m.log2 + 1 ≤ f + 1 + d := by omega
    -- the quotient is below 2 ^ (f + 1)
    have : m / 2 ^ min d (m.log2 + 2) < 2 ^ (f + 1) := by
      rw [Nat.div_lt_iff_lt_mul (pow_pos' _), ← Nat.pow_add]
      exact Nat.lt_of_lt_of_le hup (Nat.pow_le_pow_right (by decide) (by omega))
    omega

/-- The rung of a nearest word. -/
theorem nearest_rung (f : Ieee.Format) (s : Bool) {m : Nat} {place : Int} {t : Nat} (h : place + m.log2 ≤ f.leastPlace + f.fractionBits + t) :
    ∃ r, f.nearest s m place = f.word s r ∧ r ≤ (t + 2) * f.binade := by
  unfold Ieee.Format.nearest
  by_cases hm : m = 0
  · rw [if_pos hm]; exact ⟨0, rfl, Nat.zero_le _⟩
  · rw [if_neg hm]
    refine ⟨_, rfl, Nat.le_trans (Nat.min_le_left _ _) ?_⟩
    have hk := kept_le s (m := m) (f := f.fractionBits) (place := place) (last := max (place + (m.log2 : Int) - (f.fractionBits : Int)) f.leastPlace) (Int.le_max_left _ _)
    have hb : 2 ^ (f.fractionBits + 1) = 2 * f.binade := by rw [Nat.pow_succ, Nat.mul_comm]; rfl
    rw [hb] at hk
    have ht : (max (place + (m.log2 : Int) - (f.fractionBits : Int)) f.leastPlace - f.leastPlace).toNat ≤ t := by omega
    have := Nat.mul_le_mul_right f.binade ht
    rw [Nat.add_mul]
    exact Nat.add_le_add this hk

theorem single_word_fin (s : Bool) {r : Nat} (h : r < 2139095040) : (FloatKind.f32.decode (Ieee.single.word s r)).isInfinity = false := by
  have hsw : Ieee.single.signWeight = 2147483648 := by decide
  have hinf : Ieee.single.infRung = 2139095040 := by decide
  have e : Ieee.single.word s r % 2147483648 = r := by
    unfold Ieee.Format.word; rw [hsw]; split <;> omega
  unfold FloatKind.decode FloatKind.format Ieee.Format.read
  simp only [hsw, hinf, e]
  by_cases h1 : r < Ieee.single.binade
  · rw [if_pos h1]; rfl
  · rw [if_neg h1, if_pos h]; rfl

/-! ### what is rounded to a whole number -/
/-- a double word's number is below 2 ^ (t + 1) if its rung is below .. -/
theorem decode_word_double (s : Bool) {r : Nat} (hr : r < 9218868437227405312) : ∃ m e, FloatKind.f64.decode (Ieee.double.word s r) = .number s m e ∧ e + m.log2 ≤ -1074 + 52 + (r / 4503599627370496 : Nat) := by
  have hsw : Ieee.double.signWeight = 9223372036854775808 := by decide
  have hinf : Ieee.double.infRung = 9218868437227405312 := by decide
  have hbin : Ieee.double.binade = 4503599627370496 := by decide
  have hlp : Ieee.double.leastPlace = -1074 := by decide
  have hw := double_word s (r := r) (by omega)
  have hm : Ieee.double.word s r % 9223372036854775808 = r := by have := hw.2; unfold rng at this; rwa [hsw] at this
  have hs : (Ieee.double.word s r / 9223372036854775808 % 2 == 1) = s := by have := hw.1; unfold sgn at this; rwa [hsw] at this
  unfold FloatKind.decode FloatKind.format Ieee.Format.read
  simp only [hsw, hinf, hbin, hlp, hm, hs]
  by_cases h1 : r < 4503599627370496
  · rw [if_pos h1]
    refine ⟨r, -1074, rfl, ?_⟩
    have hl : r.log2 ≤ 52 := by
      by_cases h0 : r = 0
      · subst h0; decide
      · have := (Nat.log2_lt h0 (k := 52)).2 h1
        omega
    omega
  · rw [if_neg h1, if_pos hr]
    refine ⟨_, _, rfl, ?_⟩
    have hl : (4503599627370496 + r % 4503599627370496).log2 ≤ 52 := by
      have h2 : 4503599627370496 + r % 4503599627370496 < 2 ^ 53 := by
        have : (2 : Nat) ^ 53 = 9007199254740992 := by decide
        omega
      have := (Nat.log2_lt (by omega)).2 h2
      omega
    have : 1 ≤ r / 4503599627370496 := by omega
    omega

theorem encode_small (s : Bool) {m : Nat} {e : Int} {t : Nat} (h : e + m.log2 ≤ -1074 + 52 + (t : Int)) (ht : t ≤ 2000) : ∃ m' e', FloatKind.f64.decode (FloatKind.f64.encode (.number s m e)) = .number s m' e' ∧ e' + m'.log2 ≤ -1074 + 52 + ((t + 2 : Nat) : Int) := by
  have hlp : Ieee.double.leastPlace = -1074 := by decide
  have hfb : Ieee.double.fractionBits = 52 := rfl
  have hbin : Ieee.double.binade = 4503599627370496 := by decide
  obtain ⟨r, h1, h2⟩ := nearest_rung Ieee.double s (m := m) (place := e) (t := t) (by rw [hlp, hfb]; omega)
  rw [hbin] at h2
  show ∃ m' e', FloatKind.f64.decode (Ieee.double.nearest s m e) = .number s m' e' ∧ _
  rw [h1]
  obtain ⟨m', e', g1, g2⟩ := decode_word_double s (r := r) (by omega)
  refine ⟨m', e', g1, Int.le_trans g2 ?_⟩
  have : r / 4503599627370496 ≤ t + 2 := by omega
  omega

/-! ### steps -/
end Go.Proofs.Ytnommdpgmoljcaa


namespace Go.Proofs.Ytnommdpgmoljcaa
open Go.RowKit Go.ChangeShapes Go.WideShapes Go.Deep

section
variable {H : Type} {enc : TypeId × Value → H} {P : Program}

def parB (P : Program) (ts : List TypeId) : Bool := ts.all fun t => P.readableRec t && decide (t < P.types.size)

theorem trodAll_below {W W' : World} (hl : laidOutB P = true) (hb : Below W.heap.size W W') {sp : Nat → Bool} : ∀ {ts : List TypeId} {vs : List Value} {ds : List (DataW H)} {ps : List MemPlace}, parB P ts = true → DataW.TrodAll enc P W 0 (fun _ => true) true ts vs ds ps →
    (∀ x ∈ ps, x.block < W.heap.size) → (∀ x ∈ ps, sp x.block = true) → DataW.TrodAll enc P W' 0 sp true ts vs ds ps
  | [], _, _, _, _, h, _, _ => by
    obtain ⟨rfl, rfl, rfl⟩ := trodAll_nil h
    exact trodAll_mk0
  | t :: ts, _, _, _, hp, h, hlt, hs => by
    obtain ⟨v, vs, d, ds, p, q, rfl, rfl, rfl, h1, h2⟩ := trodAll_cons h
    simp only [parB, List.all_cons, Bool.and_eq_true, decide_eq_true_eq] at hp
    refine ⟨p, q, WideElems.Trod_stays hl hp.1.1 hp.1.2 h1 (fun x hx => hb.same (hlt x (List.mem_append_left _ hx))) (fun x hx => hs x (List.mem_append_left _ hx)), ?_, rfl⟩
    exact trodAll_below hl hb (by simpa [parB] using hp.2) h2 (fun x hx => hlt x (List.mem_append_right _ hx)) (fun x hx => hs x (List.mem_append_right _ hx))

/-- A law that only reads: true, and each argument reads as it did. -/
theorem law_post {f : Func} {s : ChangeSpec} {fresh handsOn again : Bool} {W W' : World} {args : Array Value} {ds gs : List (DataW H)} {before : List MemPlace} {t : TypeId}
    (hl : laidOutB P = true) (hpar : parB P f.params.toList = true) (hrt : f.resultTypes = #[t]) (ht : P.underlying t = some .bool) (hvars : s.vars = [])
    (hfn : s.fn H (ds ++ gs) = { results := [.lit (.bool true)], args := ds })
    (hW : DataW.Whole enc P f.params.toList s.vars false W args.toList ds gs before) (hb : Below W.heap.size W W') : s.post enc P f false fresh handsOn again W args (.bool true) W' := by
  have hW' := hW
  obtain ⟨p, q, hA, hV, rfl, hfz, hnd⟩ := hW'
  rw [hvars] at hV
  obtain ⟨rfl, rfl⟩ := trodVars_none hV
  have hlt : ∀ x ∈ p, x.block < W.heap.size := fun x hx => by simpa using hW.lt x (by simpa using hx)
  have hres : ∀ (b : Nat) (sp : Nat → Bool) (hd : Bool), DataW.TrodAll enc P W' b sp hd f.resultTypes.toList ((Value.bool true).resultList f.resultTypes.size) (s.fn H (ds ++ [])).results [] := by
    intro b sp hd
    rw [hfn, hrt]
    exact trodAll_mk1 (shut_bool ht true)
  have hargs : ∀ sp : Nat → Bool, (∀ x ∈ p, sp x.block = true) → DataW.TrodAll enc P W' 0 sp true f.params.toList args.toList (s.fn H (ds ++ [])).args p := by
    intro sp hs
    rw [hfn]
    exact trodAll_below hl hb hpar hA hlt hs
  have hvs : ∀ sp : Nat → Bool, DataW.TrodVars enc P W' sp s.vars (s.fn H (ds ++ [])).vars [] := by
    intro sp
    rw [hvars, hfn]
    rfl
  refine ⟨ds, [], _, [], p, [], hW, hres _ _ _, hargs _ (fun x hx => by simpa using hlt x hx), hvs _, hb.frame _, fun _ => ?_⟩
  refine ⟨ok_one hrt rfl (okWide_bool_mk ht true), _, _, ([] ++ p) ++ [], ⟨[] ++ p, [], trodAll_append (hargs _ (fun _ _ => rfl)) (hres _ _ _), hvs _, rfl, ?_, fun h => by cases h⟩, ?_⟩
  · intro b off hp
    have hp' : MemPlace.cell b off ∈ p := by simpa using hp
    rw [hb.frozen (p := ⟨b, off, none⟩) (hlt _ hp')]
    exact hfz b off (by simpa using hp')
  · intro x hx _
    simpa using hx

end
end Go.Proofs.Ytnommdpgmoljcaa


namespace Go.Proofs.Ytnommdpgmoljcaa
open Go.RowKit

def hd (f : Nat → Option Addr × Nat) (xss : List (List Nat)) : List Value := (List.range xss.length).map fun i => .slice (f i).1 (xss.getD i []).length (f i).2
def rents (t : TypeId) (f : Nat → Option Addr × Nat) (xss : List (List Nat)) : List Ent := (List.range xss.length).map fun i => ⟨(f i).1, fl (xss.getD i []), (f i).2 * 1, t⟩
theorem rents_mem {t : TypeId} {f : Nat → Option Addr × Nat} {xss : List (List Nat)} {i : Nat} (h : i < xss.length) : (⟨(f i).1, fl (xss.getD i []), (f i).2 * 1, t⟩ : Ent) ∈ rents t f xss := by
  unfold rents
  exact List.mem_map.2 ⟨i, by simpa using h, rfl⟩
/-- Each row's cells lie where its header says. -/
def Rws (w : World) (f : Nat → Option Addr × Nat) (xss : List (List Nat)) : Prop := ∀ i, i < xss.length → Cl w (f i).1 (fl (xss.getD i []))
theorem Rws.below {w w' : World} {f : Nat → Option Addr × Nat} {xss : List (List Nat)} (h : Rws w f xss) (hb : Below w.heap.size w w') : Rws w' f xss := fun i hi => (h i hi).below hb
theorem Rws.root {w0 w : World} {O : List Ent} {f : Nat → Option Addr × Nat} {xss : List (List Nat)} (h : Rws w0 f xss) (hw : Hp w0 O w) : Rws w f xss := h.below hw.below
inductive RowsIn : List Ent → TypeId → (Nat → Option Addr × Nat) → List (List Nat) → Prop
  | here {t : TypeId} {f : Nat → Option Addr × Nat} {xss : List (List Nat)} {O : List Ent} : RowsIn (rents t f xss ++ O) t f xss
  | last {t : TypeId} {f : Nat → Option Addr × Nat} {xss : List (List Nat)} : RowsIn (rents t f xss) t f xss
  | there {t : TypeId} {f : Nat → Option Addr × Nat} {xss : List (List Nat)} {e : Ent} {O : List Ent} : RowsIn O t f xss → RowsIn (e :: O) t f xss
  | thereS {t : TypeId} {f : Nat → Option Addr × Nat} {xss : List (List Nat)} {S O : List Ent} : RowsIn O t f xss → RowsIn (S ++ O) t f xss
theorem RowsIn.mem {O : List Ent} {t : TypeId} {f : Nat → Option Addr × Nat} {xss : List (List Nat)} (h : RowsIn O t f xss) : ∀ i, i < xss.length → (⟨(f i).1, fl (xss.getD i []), (f i).2 * 1, t⟩ : Ent) ∈ O := by
  induction h with
  | here => exact fun i hi => List.mem_append_left _ (rents_mem hi)
  | last => exact fun i hi => rents_mem hi
  | there _ ih => exact fun i hi => List.mem_cons_of_mem _ (ih i hi)
  | thereS _ ih => exact fun i hi => List.mem_append_right _ (ih i hi)
theorem Rws.own {w0 w : World} {O : List Ent} {t : TypeId} {f : Nat → Option Addr × Nat} {xss : List (List Nat)} (h : RowsIn O t f xss) (hw : Hp w0 O w) : Rws w f xss := fun i hi => Sees.own (h.mem i hi) w hw
def Cans (xss : List (List Nat)) : Prop := ∀ xs ∈ xss, ∀ x ∈ xs, Can .f32 x
theorem Cans.row {xss : List (List Nat)} (h : Cans xss) {k : Nat} (hk : k < xss.length) : ∀ x ∈ xss.getD k [], Can .f32 x := h _ (by simp [hk])

/-! ### sizes -/
/-! ### rows that are marked -/
section
variable {P : Program} {n : Nat} {w0 : World} {O : List Ent} {E : Env} {o : Oper}
/-! ### results that lie in cells -/
def rdRes (tmps : Array Value) : ResultVar → Sem Value
  | .tmp t => pure (tmps.getD t undef)
  | .cell c t => do loadVar t (← asAddr (tmps.getD c undef))
theorem results_rd (fn : Func) (tmps : Array Value) : results fn tmps = (do let vs ← fn.results.mapM (rdRes tmps); pure (if h : vs.size = 1 then vs[0] else .tuple vs)) := by
  unfold results
  congr 1
def RV (n : Nat) (P : Program) (w0 : World) (O : List Ent) (E : Env) (r : ResultVar) (u : Value) : Prop :=
  ∀ (a : Act) (w : World), Models n E a → Hp w0 O w → ∃ v, (rdRes a.tmps r).run P w = .ok v w ∧ cn1 v = u
theorem rv_tmp {t : Tmp} {u : Value} (hu : E.get t = some u) (hn : ∀ z, u ≠ .tuple z) : RV n P w0 O E (.tmp t) u := by
  intro a w ha hw
  obtain ⟨v, h1, h2⟩ := ha.get t u hu
  exact ⟨v, by simp [rdRes, h1], cn_of_ne h2 hn⟩
theorem rv_cellS {c : Tmp} {t : TypeId} {a : Option Addr} {k z : Nat} {us cs : List Value} {fs : Array Field} (hu : E.get c = some (.pointer (some (adr a k)))) (ht : P.underlying t = some (.struct fs)) (hz : (P.info? t).map (·.size) = some z) (hs : Sees w0 O a us)
    (hcs : (us.drop k).take z = cs) (hl : cs.length = z) (hsc : cs.all scal = true) : RV n P w0 O E (.cell c t) (.agg cs.toArray) := by
  intro ac w ha hw
  obtain ⟨v, h1, h2⟩ := ha.get c _ hu
  have e1 := cn_pointer h2
  obtain ⟨vs, g1, g2, g3⟩ := (hs w hw).cellsN cs k (fun j u hj => by
    subst hcs
    have hj' : j < z := by
      have := (List.getElem?_eq_some_iff.1 hj).1
      simp at this; omega
    rw [List.getElem?_take, if_pos hj', List.getElem?_drop] at hj
    exact hj)
  obtain ⟨h4, h5⟩ := map_cn0_of g3 hsc
  have hload := run_loadCells_adr (P := P) (w := w) (a := a) (k := k) vs g2
  rw [g1, hl] at hload
  refine ⟨.agg vs.toArray, ?_, by simp [cn1, h4]⟩
  simp [rdRes, h1, e1, asAddr, loadVar, aggB ht, info_size hz, hload]
inductive RVs (n : Nat) (P : Program) (w0 : World) (O : List Ent) (E : Env) : List ResultVar → List Value → Prop
  | nil : RVs n P w0 O E [] []
  | cons {r : ResultVar} {u : Value} {rs : List ResultVar} {us : List Value} : RV n P w0 O E r u → RVs n P w0 O E rs us → RVs n P w0 O E (r :: rs) (u :: us)
theorem RVs.run {rs : List ResultVar} {us : List Value} (h : RVs n P w0 O E rs us) {a : Act} {w : World} (ha : Models n E a) (hw : Hp w0 O w) :
    ∃ vs : List Value, (rs.mapM (m := Sem) (rdRes a.tmps)).run P w = .ok vs w ∧ vs.map cn1 = us := by
  induction h with
  | nil => exact ⟨[], rfl, rfl⟩
  | cons hr _ ih =>
    obtain ⟨v, h1, h2⟩ := hr a w ha hw
    obtain ⟨vs, h3, h4⟩ := ih
    exact ⟨v :: vs, by simp only [List.mapM_cons, Sem.run_bind, h1, Result.andThen_ok, h3, Sem.run_pure], by simp [h2, h4]⟩
theorem run_results {fn : Func} {rs : List ResultVar} {us : List Value} (hr : fn.results = rs.toArray) (h : RVs n P w0 O E rs us) {a : Act} {w : World} (ha : Models n E a) (hw : Hp w0 O w) :
    ∃ vs : List Value, (results fn a.tmps).run P w = .ok (if h : vs.toArray.size = 1 then vs.toArray[0] else .tuple vs.toArray) w ∧ vs.map cn1 = us := by
  obtain ⟨vs, h1, h2⟩ := h.run ha hw
  refine ⟨vs, ?_, h2⟩
  rw [results_rd, hr, Array.mapM_eq_mapM_toList, Sem.run_bind, Sem.run_map]
  rw [h1]
  rfl
theorem retC {fn : Func} {R : Value → World → Prop} {r : ResultVar} {u : Value} (hr : fn.results = #[r]) (h : RV n P w0 O E r u) (hn : ∀ z, u ≠ .tuple z) (hk : ∀ w, Hp w0 O w → R u w) : VE n w0 O E (Ends P fn R) .ret := by
  intro a w ha hw
  obtain ⟨vs, h1, h2⟩ := run_results (rs := [r]) hr (.cons h .nil) ha hw
  match vs, h2 with
  | [v], h2 =>
    simp only [List.map_cons, List.map_nil, List.cons.injEq, and_true] at h2
    refine bodyPost_ret h1 ha.defers ⟨v, rfl, ?_⟩
    have : cn v = u := by
      rw [← h2] at hn ⊢
      cases v <;> first | rfl | exact absurd rfl (hn _)
    rw [this]; exact hk w hw
theorem retN {fn : Func} {R : Value → World → Prop} {rs : List ResultVar} {us : List Value} (hr : fn.results = rs.toArray) (h : RVs n P w0 O E rs us) (h2 : us.length ≠ 1) (hk : ∀ w, Hp w0 O w → R (.tuple us.toArray) w) : VE n w0 O E (Ends P fn R) .ret := by
  intro a w ha hw
  obtain ⟨vs, h1, h3⟩ := run_results hr h ha hw
  have hl : ¬ vs.toArray.size = 1 := by rw [← h3] at h2; simpa using h2
  rw [dif_neg hl] at h1
  refine bodyPost_ret h1 ha.defers ⟨_, rfl, ?_⟩
  have := hk w hw
  rw [← h3] at this
  simpa [cn] using this
end
end Go.Proofs.Ytnommdpgmoljcaa


namespace Go.Proofs.Ytnommdpgmoljcaa

/-! ### the side of a square -/
def isSide (m n : Nat) : Bool := decide (1 ≤ n) && decide (n * n = m)
def side (m : Nat) : Nat := ((List.range 9).find? (isSide m)).getD 0
/-! ### forward and backward -/
end Go.Proofs.Ytnommdpgmoljcaa


namespace Go.Proofs.Ytnommdpgmoljcaa
open Go.RowKit

/-! ### the first index of which something holds -/
/-! ### what is valid -/
section
variable {P : Program} {n : Nat} {w0 : World} {O : List Ent} {E : Env} {o : Oper}
end
end Go.Proofs.Ytnommdpgmoljcaa


namespace Go.Proofs.Ytnommdpgmoljcaa
open Go.RowKit

theorem ext_bits32 {P : Program} (vs : Array Value) (w : World) {x : Nat} (hn : fnan .f32 x = false) (h : vs.toList.map cn = [.float .f32 x]) : ∃ v w', (Extern.MathFloatBits.float32bits vs).run P w = .ok v w' ∧ cn v = .int .u32 x ∧ Below w.heap.size w w' := by
  obtain ⟨b, rfl, hb⟩ := one_arg h
  have hb' : b = x := by
    rw [← hb, fnan_cb] at hn
    rw [← hb, cb_num hn]
  subst hb'
  exact ⟨.int .u32 b, w, rfl, rfl, Below.refl _ _⟩
theorem ext_bits64 {P : Program} (vs : Array Value) (w : World) {x : Nat} (hn : fnan .f64 x = false) (h : vs.toList.map cn = [.float .f64 x]) : ∃ v w', (Extern.MathFloatBits.float64bits vs).run P w = .ok v w' ∧ cn v = .int .u64 x ∧ Below w.heap.size w w' := by
  obtain ⟨b, rfl, hb⟩ := one_arg h
  have hb' : b = x := by
    rw [← hb, fnan_cb] at hn
    rw [← hb, cb_num hn]
  subst hb'
  exact ⟨.int .u64 b, w, rfl, rfl, Below.refl _ _⟩
def neg64 (x : Nat) : Bool := icmp .lss (IntKind.i64.wrap (x : Int)) 0
theorem same_number {x y : Nat} (hx : Can .f32 x) (hy : Can .f32 y) (h : fnan .f32 x = false) (hn : fnan .f32 y = false) :
    (fcmp .eql .f32 x y && (neg64 (fconv .f32 .f64 x) == neg64 (fconv .f32 .f64 y))) = (x == y) := by
  cases he : fcmp .eql .f32 x y
  · symm
    rw [Bool.false_and, beq_eq_false_iff_ne]
    rintro rfl
    rw [feq_self, h] at he
    cases he
  · rw [Bool.true_and]
    obtain ⟨_, _, e | ⟨e1, e2⟩⟩ := (feq_iff hx hy).1 he
    · subst e; simp
    · rcases zero_words .f32 hx e1 with rfl | rfl <;> rcases zero_words .f32 hy e2 with rfl | rfl <;> decide
theorem fnan_up' {x : Nat} (h : fcmp .neq .f32 x x = false) : fnan .f64 (fconv .f32 .f64 x) = false := by
  rw [fne_self] at h
  rw [show fconv .f32 .f64 x = up x from rfl, fnan_up, h]
end Go.Proofs.Ytnommdpgmoljcaa


namespace Go.Proofs.Ytnommdpgmoljcaa
open Go.RowKit

theorem units_pos (f : Ieee.Format) {r : Nat} (h : r ≠ 0) : units f r ≠ 0 := fun e => h ((units_zero f).1 e)
/-- A number that the format has is written as its word. -/
theorem nearest_units (f : Ieee.Format) (s : Bool) {m r a b : Nat} {e : Int} (hr : r ≤ f.infRung) (he : e + a = f.leastPlace + b) (h : m * 2 ^ b = units f r * 2 ^ a) : f.nearest s m e = f.word s r := by
  unfold Ieee.Format.nearest
  have hpa := pow_pos' a
  have hpb := pow_pos' b
  by_cases hr0 : r = 0
  · subst hr0
    have hu : units f 0 = 0 := (units_zero f).2 rfl
    rw [hu, Nat.zero_mul] at h
    have hm : m = 0 := by
      rcases Nat.mul_eq_zero.1 h with h | h
      · exact h
      · omega
    rw [if_pos hm]
  · have hu := units_pos f hr0
    have hm : m ≠ 0 := by
      rintro rfl
      rw [Nat.zero_mul] at h
      rcases Nat.mul_eq_zero.1 h.symm with h | h
      · exact hu h
      · omega
    rw [if_neg hm]
    have hl : m.log2 + b = (units f r).log2 + a := by rw [← log2_mul_pow hm b, ← log2_mul_pow hu a, h]
    have hb : 0 < f.binade := pow_pos' _
    -- the kept digits, for any last place at which the number is whole
    have key : ∀ (q t : Nat), q ≠ 0 → units f r = q * 2 ^ t → Ieee.Toward.even.cut s (m <<< (e - (f.leastPlace + t)).toNat) ((f.leastPlace + t) - e).toNat = q := by
      intro q t hq hqt
      rw [hqt, Nat.mul_assoc, ← Nat.pow_add] at h
      rcases Nat.le_total (t + a) b with hle | hle
      · have e1 : (e - (f.leastPlace + t)).toNat = b - (t + a) := by omega
        have e2 : ((f.leastPlace + t) - e).toNat = 0 := by omega
        rw [e1, e2, cut_zero, shl_eq]
        have : b = (b - (t + a)) + (t + a) := by omega
        rw [this, Nat.pow_add, ← Nat.mul_assoc] at h
        exact Nat.eq_of_mul_eq_mul_right (pow_pos' _) h
      · have e1 : (e - (f.leastPlace + t)).toNat = 0 := by omega
        have e2 : ((f.leastPlace + t) - e).toNat = t + a - b := by omega
        have : t + a = (t + a - b) + b := by omega
        rw [this, Nat.pow_add, ← Nat.mul_assoc] at h
        have hm' := Nat.eq_of_mul_eq_mul_right hpb h
        rw [e1, e2, shl_eq, Nat.pow_zero, Nat.mul_one, hm']
        exact cut_exact s q _ hq
    by_cases hrb : r < f.binade
    · have hur : units f r = r := by unfold units; rw [if_pos hrb]
      have hlg : (units f r).log2 < f.fractionBits := by
        rw [hur]
        exact (Nat.log2_lt hr0).2 hrb
      have hlast : max (e + (m.log2 : Int) - (f.fractionBits : Int)) f.leastPlace = f.leastPlace + ((0 : Nat) : Int) := by omega
      simp only [hlast]
      have := key r 0 hr0 (by rw [hur]; simp)
      rw [this]
      simp
      rw [Nat.min_eq_left hr]
    · have hq1 : 1 ≤ r / f.binade := (Nat.le_div_iff_mul_le hb).2 (by omega)
      have hmod := Nat.mod_lt r hb
      have hur : units f r = (f.binade + r % f.binade) * 2 ^ (r / f.binade - 1) := by unfold units; rw [if_neg hrb]
      have hqne : f.binade + r % f.binade ≠ 0 := by omega
      have hlg : (units f r).log2 = f.fractionBits + (r / f.binade - 1) := by
        rw [hur, log2_mul_pow hqne]
        congr 1
        rw [Nat.log2_eq_iff hqne]
        have hbe : f.binade = 2 ^ f.fractionBits := rfl
        rw [Nat.pow_succ, ← hbe]
        omega
      have hlast : max (e + (m.log2 : Int) - (f.fractionBits : Int)) f.leastPlace = f.leastPlace + ((r / f.binade - 1 : Nat) : Int) := by omega
      simp only [hlast]
      rw [key _ _ hqne hur]
      congr 1
      have e1 : (f.leastPlace + ((r / f.binade - 1 : Nat) : Int) - f.leastPlace).toNat = r / f.binade - 1 := by omega
      rw [e1]
      have e2 := Nat.div_add_mod r f.binade
      have e3 : (r / f.binade - 1) * f.binade + (f.binade + r % f.binade) = r := by
        have : r / f.binade = (r / f.binade - 1) + 1 := by omega
        rw [this, Nat.mul_add, Nat.mul_one] at e2
        rw [Nat.mul_comm]
        omega
      rw [e3, Nat.min_eq_left hr]

/-- The absolute value: without the sign. -/
def fabs (k : FloatKind) (x : Nat) : Nat := if fnan k x then qn k else x % k.format.signWeight
theorem rng_abs (f : Ieee.Format) (x : Nat) : rng f (x % f.signWeight) = rng f x := Nat.mod_mod _ _
theorem sgn_abs (f : Ieee.Format) (x : Nat) : sgn f (x % f.signWeight) = false := by
  have hp : 0 < f.signWeight := pow_pos' _
  unfold sgn
  rw [Nat.div_eq_of_lt (Nat.mod_lt _ hp)]
  rfl
theorem fnan_rng (k : FloatKind) (x : Nat) : fnan k x = decide (k.format.infRung < rng k.format x) := by
  cases h : fnan k x
  · have := rng_le h
    symm; exact decide_eq_false (by omega)
  · symm
    apply decide_eq_true
    apply Classical.byContradiction
    intro hn
    rcases Nat.lt_or_ge (rng k.format x) k.format.infRung with h1 | h1
    · obtain ⟨m, e, h2, _⟩ := read_number k.format h1
      unfold fnan FloatKind.decode at h
      rw [h2] at h
      cases h
    · have h2 := read_inf k (x := x) (by omega)
      unfold fnan FloatKind.decode at h
      rw [h2] at h
      cases h
theorem fnan_abs (k : FloatKind) (x : Nat) : fnan k (x % k.format.signWeight) = fnan k x := by rw [fnan_rng, fnan_rng, rng_abs]
theorem sw_lt (k : FloatKind) : k.format.signWeight < 2 ^ k.format.width := by cases k <;> decide
theorem can_fabs (k : FloatKind) (x : Nat) : Can k (fabs k x) := by
  unfold fabs
  split
  · exact ⟨by rw [cb_of_nan (fnan_qn k)], qn_lt k⟩
  · rename_i h
    have hp : 0 < k.format.signWeight := pow_pos' _
    exact ⟨cb_num (by rw [fnan_abs]; simpa using h), Nat.lt_trans (Nat.mod_lt _ hp) (sw_lt k)⟩

theorem rng_word (k : FloatKind) (s : Bool) {r : Nat} (h : r ≤ k.format.infRung) : rng k.format (k.format.word s r) = r ∧ sgn k.format (k.format.word s r) = s := by
  have hlt : r < k.format.signWeight := Nat.lt_of_le_of_lt h (by cases k <;> decide)
  have hp : 0 < k.format.signWeight := pow_pos' _
  unfold rng sgn Ieee.Format.word
  cases s
  · simp only [Bool.false_eq_true, if_false]
    rw [Nat.mod_eq_of_lt hlt, Nat.div_eq_of_lt hlt]
    exact ⟨rfl, rfl⟩
  · simp only [if_true]
    rw [Nat.add_mod_left, Nat.mod_eq_of_lt hlt, Nat.add_div_left _ hp, Nat.div_eq_of_lt hlt]
    exact ⟨rfl, rfl⟩

/-- A 64-bit word that stands for a 32-bit number is narrowed to it. -/
theorem down_exact {X r : Nat} (hX : rng Ieee.double X < Ieee.double.infRung) (hr : r < Ieee.single.infRung) (hu : units Ieee.double (rng Ieee.double X) = units Ieee.single r * upK) :
    fconv .f64 .f32 X = Ieee.single.word (sgn Ieee.double X) r ∧ fover .f64 .f32 X = false := by
  obtain ⟨m, e, h1, h2⟩ := read_number Ieee.double hX
  have hn : Ieee.single.nearest (sgn Ieee.double X) m (Ieee.double.leastPlace + (e : Nat)) = Ieee.single.word (sgn Ieee.double X) r := by
    refine nearest_units Ieee.single _ (a := 925) (b := e) (Nat.le_of_lt hr) ?_ ?_
    · have hlp : Ieee.double.leastPlace = -1074 := by decide
      have hlp' : Ieee.single.leastPlace = -149 := by decide
      rw [hlp, hlp']; omega
    · rw [h2, hu, upK, pow2]
  have hd : FloatKind.f64.decode X = .number (sgn Ieee.double X) m (Ieee.double.leastPlace + (e : Nat)) := h1
  constructor
  · unfold fconv
    rw [if_neg (by decide), hd]
    exact hn
  · unfold fover
    rw [if_neg (by decide), hd]
    have : FloatKind.f32.encode (.number (sgn Ieee.double X) m (Ieee.double.leastPlace + (e : Nat))) = Ieee.single.word (sgn Ieee.double X) r := hn
    simp only [this]
    have hw := rng_word .f32 (sgn Ieee.double X) (r := r) (Nat.le_of_lt hr)
    obtain ⟨m', e', h3, _⟩ := read_number Ieee.single (x := Ieee.single.word (sgn Ieee.double X) r) (by
      have := hw.1
      change rng Ieee.single (Ieee.single.word _ r) = r at this
      omega)
    have : FloatKind.f32.decode (Ieee.single.word (sgn Ieee.double X) r) = .number (sgn Ieee.single (Ieee.single.word (sgn Ieee.double X) r)) m' (Ieee.single.leastPlace + (e' : Nat)) := h3
    rw [this]; rfl

/-- The absolute value, by way of 64 bits. -/
theorem abs_down (y : Nat) : fconv .f64 .f32 (fabs .f64 (fconv .f32 .f64 y)) = fabs .f32 y ∧ fover .f64 .f32 (fabs .f64 (fconv .f32 .f64 y)) = false := by
  change fconv .f64 .f32 (fabs .f64 (up y)) = fabs .f32 y ∧ fover .f64 .f32 (fabs .f64 (up y)) = false
  unfold fabs
  rw [fnan_up]
  cases hn : fnan .f32 y
  · simp only [Bool.false_eq_true, if_false]
    have hle := rng_le hn
    rcases Nat.lt_or_ge (rng Ieee.single y) Ieee.single.infRung with h | h
    · obtain ⟨_, h2, h3⟩ := up_number h
      have := down_exact (X := up y % Ieee.double.signWeight) (r := rng Ieee.single y) (by rw [rng_abs]; exact h2) h (by rw [rng_abs]; exact h3)
      rw [sgn_abs] at this
      exact this
    · have h' : rng Ieee.single y = Ieee.single.infRung := Nat.le_antisymm hle h
      rw [up_inf h']
      have e1 : Ieee.double.word (sgn Ieee.single y) Ieee.double.infRung % FloatKind.f64.format.signWeight = 9218868437227405312 := by cases sgn Ieee.single y <;> decide
      rw [e1]
      have e2 : y % FloatKind.f32.format.signWeight = 2139095040 := h'
      rw [e2]
      decide
  · simp only [if_true]
    decide

theorem cb_abs64 (b : Nat) : cb .f64 (b % 9223372036854775808) = fabs .f64 (cb .f64 b) := by
  have e : ∀ x, fnan .f64 (x % 9223372036854775808) = fnan .f64 x := fnan_abs .f64
  unfold fabs
  rw [fnan_cb]
  cases hn : fnan .f64 b
  · rw [cb_num (by rw [e, hn]), cb_num hn]; rfl
  · rw [cb_of_nan (by rw [e, hn])]; rfl
end Go.Proofs.Ytnommdpgmoljcaa


namespace Go.Proofs.Ytnommdpgmoljcaa
open Go.RowKit
namespace Dr

/-- What an operation makes whatever is there: by its place in the region. -/
abbrev Tab := List (Nat × ((Nat → Value) × (Nat → Ent)))
def Tab.get : Tab → Nat → (Nat → Value) × (Nat → Ent)
  | [], _ => (fun _ => undef, fun _ => ⟨none, [], 0, 0⟩)
  | (j, p) :: l, i => match Nat.beq j i with | true => p | false => Tab.get l i

section
variable {P : Program} {n : Nat} {w0 : World} {O R : List Ent} {T : Tab} {E : Env} {ops : Array Oper}

/-- Something new is made, whatever is there. -/
def YA (P : Program) (E : Env) (o : Oper) (u : Nat → Value) (e : Nat → Ent) : Prop :=
  ∀ ρ w, Ev E o.op ρ → ResOk P (fun v w' => ∃ b, cn v = u b ∧ Below w.heap.size w w' ∧ Ent.at w.heap.size w' (e b)) ((execOp ρ o).run P w)
theorem YA.of {o : Oper} {u : Nat → Value} {e : Nat → Ent} (h : ∀ w0, YN P w0 [] E o u (fun b => [e b])) : YA P E o u e := by
  intro ρ w hE
  refine (h w ρ w hE (Hp.refl w)).mono fun v w' ⟨b, h1, h2, h3, _⟩ => ⟨b, h1, h2, h3 _ List.mem_cons_self⟩
theorem YA.weaken {E' : Env} {o : Oper} {u : Nat → Value} {e : Nat → Ent} (h : YA P E o u e) (hE : ∀ x ∈ o.op.operands, E'.opd x = E.opd x) : YA P E' o u e :=
  fun ρ w hρ => h ρ w (fun x hx u hu => hρ x hx u (by rw [hE x hx]; exact hu))

/-- What an operation does: a value and what is owned then, for some x. -/
inductive Eff (P : Program) (w0 : World) (ops : Array Oper) (R : List Ent) : Kd → Oper → Env → List Ent → (X : Type) → (X → Value) → (X → List Ent) → Prop
  | skip {k : Kd} {o : Oper} {E : Env} {O : List Ent} : Guard ops E o false → Eff P w0 ops R k o E O Unit (fun _ => undef) (fun _ => O)
  | quiet {o : Oper} {E : Env} {O : List Ent} {u : Value} : Guard ops E o true → YQ P w0 (O ++ R) E o u → Eff P w0 ops R 0 o E O Unit (fun _ => u) (fun _ => O)
  | quietR {o : Oper} {E : Env} {O : List Ent} {u : Value} : Guard ops E o true → YQ P w0 R E o u → Eff P w0 ops R 5 o E O Unit (fun _ => u) (fun _ => O)
  | make {o : Oper} {E : Env} {O : List Ent} {X : Type} {u : X → Value} {N : X → List Ent} : Guard ops E o true → YN P w0 (O ++ R) E o u N → Eff P w0 ops R 1 o E O X u (fun x => N x ++ O)
  | turn {o : Oper} {E : Env} {O : List Ent} {X : Type} {u : X → Value} {O' : X → List Ent} : Guard ops E o true → YC P w0 (O ++ R) E o u (fun x => O' x ++ R) → Eff P w0 ops R 3 o E O X u O'

/-- One operation, and K behind it. -/
def Stp (P : Program) (n : Nat) (w0 : World) (ops : Array Oper) (T : Tab) (k : Kd) (i : Nat) (o : Oper) (E : Env) (O R : List Ent) (K : Env → List Ent → List Ent → Prop) : Prop :=
  if k = 2 then o.guard = none ∧ DOk n o ∧ YA P E o (T.get i).1 (T.get i).2 ∧ ∀ b, K (putE E o.dst ((T.get i).1 b)) ((T.get i).2 b :: O) R
  else if k = 4 then ∃ (X : Type) (u : X → Value) (O' : X → List Ent), Nonempty X ∧ Guard ops E o true ∧ YC P w0 (O ++ R) E o u O' ∧ DOk n o ∧ ∀ x, K (putE E o.dst (u x)) (O' x) []
  else ∃ (X : Type) (u : X → Value) (O' : X → List Ent), Nonempty X ∧ Eff P w0 ops R k o E O X u O' ∧ DOk n o ∧ ∀ x, K (putE E o.dst (u x)) (O' x) R

/-- The walk: the operations of π in this order. -/
def SW (P : Program) (n : Nat) (w0 : World) (ops : Array Oper) (T : Tab) (K : Env → List Ent → List Ent → Prop) : List (Nat × Kd) → Env → List Ent → List Ent → Prop
  | [], E, O, R => K E O R
  | (i, k) :: π, E, O, R => ∃ o, ops[i]? = some o ∧ Stp P n w0 ops T k i o E O R (SW P n w0 ops T K π)

/-- K does not look at the order of what is known. -/
def Lax3 (w0 : World) (K : Env → List Ent → List Ent → Prop) : Prop :=
  ∀ E E' O O' R, (∀ t, E'.get t = E.get t) → (∀ F w, Hp w0 (F ++ O') w → Hp w0 (F ++ O) w) → K E O R → K E' O' R

theorem frame {O' : List Ent} (h : ∀ F w, Hp w0 (F ++ O') w → Hp w0 (F ++ O) w) : ∀ F w, Hp w0 (F ++ (O' ++ R)) w → Hp w0 (F ++ (O ++ R)) w := by
  intro F w hw
  have h1 : (F ++ (O' ++ R)).Perm ((F ++ R) ++ O') := by
    rw [List.append_assoc]
    exact List.Perm.append_left F List.perm_append_comm
  have h2 : ((F ++ R) ++ O).Perm (F ++ (O ++ R)) := by
    rw [List.append_assoc]
    exact List.Perm.append_left F List.perm_append_comm
  exact (h (F ++ R) w (hw.perm' h1)).perm' h2

/-- The effect, seen from what says the same. -/
theorem Eff.lax {E' : Env} {O' : List Ent} {k : Kd} {o : Oper} {X : Type} {u : X → Value} {S : X → List Ent} (hE : ∀ t, E'.get t = E.get t) (hO : ∀ F w, Hp w0 (F ++ O') w → Hp w0 (F ++ O) w) (h : Eff P w0 ops R k o E O X u S) :
    ∃ S', Eff P w0 ops R k o E' O' X u S' ∧ ∀ x F w, Hp w0 (F ++ S' x) w → Hp w0 (F ++ S x) w := by
  have hop := opd_same hE
  cases h with
  | skip hg => exact ⟨_, .skip (hg.same fun t _ => hE t), fun _ => hO⟩
  | quiet hg h => exact ⟨_, .quiet (hg.same fun t _ => hE t) (h.weaken (fun x _ => hop x) (hp_nil (frame hO))), fun _ => hO⟩
  | quietR hg h => exact ⟨_, .quietR (hg.same fun t _ => hE t) (h.weaken (fun x _ => hop x) (fun _ h => h)), fun _ => hO⟩
  | make hg h => exact ⟨_, .make (hg.same fun t _ => hE t) (h.weaken (fun x _ => hop x) (hp_nil (frame hO))), fun x => Hp.perm hO⟩
  | turn hg h => exact ⟨_, .turn (hg.same fun t _ => hE t) (fun ρ w F hρ hw => h ρ w F (fun x hx u hu => hρ x hx u (by rw [hop x]; exact hu)) (frame hO F w hw)), fun _ _ _ h => h⟩

theorem Stp.lax {k : Kd} {i : Nat} {o : Oper} {K : Env → List Ent → List Ent → Prop} (hK : Lax3 w0 K) : Lax3 w0 (fun E O R => Stp P n w0 ops T k i o E O R K) := by
  intro E E' O O' R hE hO h
  simp only [Stp] at h ⊢
  split at h
  · rename_i hk
    rw [if_pos hk]
    exact ⟨h.1, h.2.1, h.2.2.1.weaken (fun x _ => opd_same hE x), fun b => hK _ _ _ _ _ (put_congr hE _ _) (fun F w => by simpa using Hp.perm (N := [(T.get i).2 b]) hO F w) (h.2.2.2 b)⟩
  · rename_i hk
    rw [if_neg hk]
    split at h
    · rename_i hk4
      rw [if_pos hk4]
      obtain ⟨X, u, S, h0, hg, h1, h2, h3⟩ := h
      exact ⟨X, u, S, h0, hg.same fun t _ => hE t, fun ρ w F hρ hw => h1 ρ w F (fun x hx u hu => hρ x hx u (by rw [opd_same hE x]; exact hu)) (frame hO F w hw), h2, fun x => hK _ _ _ _ _ (put_congr hE _ _) (fun _ _ h => h) (h3 x)⟩
    · rename_i hk4
      rw [if_neg hk4]
      obtain ⟨X, u, S, h0, h1, h2, h3⟩ := h
      obtain ⟨S', h4, h5⟩ := h1.lax hE hO
      exact ⟨X, u, S', h0, h4, h2, fun x => hK _ _ _ _ _ (put_congr hE _ _) (h5 x) (h3 x)⟩

theorem SW.lax {K : Env → List Ent → List Ent → Prop} (hK : Lax3 w0 K) : ∀ π, Lax3 w0 (SW P n w0 ops T K π)
  | [] => hK
  | (i, k) :: π => by
    intro E E' O O' R hE hO ⟨o, ho, h⟩
    exact ⟨o, ho, Stp.lax (SW.lax hK π) _ _ _ _ _ hE hO h⟩

/-- p is walked before q; may q be carried out before p? -/
def swapOk (ops : Array Oper) (kp kq : Kd) (p q : Oper) : Bool :=
  (match p.dst with | some d => !(q.looksAt ops).contains d && q.dst != some d | none => true) &&
  (match q.dst with | some d => !(p.looksAt ops).contains d | none => true) &&
  ((kp == 0 && (kq == 0 || kq == 1 || kq == 5)) || (kp == 5 && (kq == 0 || kq == 1 || kq == 3 || kq == 5)) || (kq == 2 && kp != 4))

theorem Eff.put {k : Kd} {o : Oper} {d : Option Nat} {u : Value} {X : Type} {v : X → Value} {S : X → List Ent} (h : ∀ x, d = some x → (o.looksAt ops).contains x = false) :
    Eff P w0 ops R k o (putE E d u) O X v S ↔ Eff P w0 ops R k o E O X v S := by
  constructor
  · intro he
    cases he with
    | skip hg => exact .skip ((guard_put h).1 hg)
    | quiet hg hy => exact .quiet ((guard_put h).1 hg) (hy.weaken (fun x hx => (opd_put h u x hx).symm) fun _ h => h)
    | quietR hg hy => exact .quietR ((guard_put h).1 hg) (hy.weaken (fun x hx => (opd_put h u x hx).symm) fun _ h => h)
    | make hg hy => exact .make ((guard_put h).1 hg) (hy.weaken (fun x hx => (opd_put h u x hx).symm) fun _ h => h)
    | turn hg hy => exact .turn ((guard_put h).1 hg) (fun ρ w F hρ hw => hy ρ w F (fun x hx v hv => hρ x hx v (by rw [← opd_put h u x hx]; exact hv)) hw)
  · intro he
    cases he with
    | skip hg => exact .skip ((guard_put h).2 hg)
    | quiet hg hy => exact .quiet ((guard_put h).2 hg) (hy.weaken (fun x hx => opd_put h u x hx) fun _ h => h)
    | quietR hg hy => exact .quietR ((guard_put h).2 hg) (hy.weaken (fun x hx => opd_put h u x hx) fun _ h => h)
    | make hg hy => exact .make ((guard_put h).2 hg) (hy.weaken (fun x hx => opd_put h u x hx) fun _ h => h)
    | turn hg hy => exact .turn ((guard_put h).2 hg) (fun ρ w F hρ hw => hy ρ w F (fun x hx v hv => hρ x hx v (by rw [opd_put h u x hx]; exact hv)) hw)

/-- .. with one entry more -/
theorem Eff.beside {k : Kd} {o : Oper} {e : Ent} {X : Type} {v : X → Value} {S : X → List Ent} (he : Eff P w0 ops R k o E O X v S) :
    ∃ S', Eff P w0 ops R k o E (e :: O) X v S' ∧ ∀ x F w, Hp w0 (F ++ S' x) w → Hp w0 (F ++ (e :: S x)) w := by
  have hsub : ∀ w, Hp w0 (e :: O ++ R) w → Hp w0 (O ++ R) w := fun w h => h.sub (List.sublist_cons_self e (O ++ R))
  cases he with
  | skip hg => exact ⟨_, .skip hg, fun _ _ _ h => h⟩
  | quiet hg hy => exact ⟨_, .quiet hg (hy.weaken (fun _ _ => rfl) hsub), fun _ _ _ h => h⟩
  | quietR hg hy => exact ⟨_, .quietR hg hy, fun _ _ _ h => h⟩
  | make hg hy =>
    exact ⟨_, .make hg (hy.weaken (fun _ _ => rfl) hsub), fun x F w h => swap_hp (N := _) (M := [e]) F w h⟩
  | turn hg hy =>
    refine ⟨fun x => e :: S x, .turn hg fun ρ w F hρ hw => ?_, fun _ _ _ h => h⟩
    have := hy ρ w (F ++ [e]) hρ (by simpa using hw)
    refine this.mono fun v w' ⟨x, h1, h2⟩ => ⟨x, h1, by simpa using h2⟩

theorem Stp.swap {kp kq : Kd} {ip iq : Nat} {p q : Oper} {K : Env → List Ent → List Ent → Prop} (hK : Lax3 w0 K) (hs : swapOk ops kp kq p q = true)
    (h : Stp P n w0 ops T kp ip p E O R (fun E O R => Stp P n w0 ops T kq iq q E O R K)) : Stp P n w0 ops T kq iq q E O R (fun E O R => Stp P n w0 ops T kp ip p E O R K) := by
  simp only [swapOk, Bool.and_eq_true, Bool.or_eq_true, beq_iff_eq, bne_iff_ne, ne_eq] at hs
  obtain ⟨⟨hs1, hs2⟩, hs3⟩ := hs
  have d1 : ∀ d, p.dst = some d → (q.looksAt ops).contains d = false := fun d hd => by rw [hd] at hs1; simpa using (Bool.and_eq_true_iff.1 hs1).1
  have d2 : ∀ d, p.dst = some d → q.dst ≠ some d := fun d hd => by rw [hd] at hs1; simpa using (Bool.and_eq_true_iff.1 hs1).2
  have d3 : ∀ d, q.dst = some d → (p.looksAt ops).contains d = false := fun d hd => by rw [hd] at hs2; simpa using hs2
  have hid : ∀ (O : List Ent) (F : List Ent) (w : World), Hp w0 (F ++ O) w → Hp w0 (F ++ O) w := fun _ _ _ h => h
  have hp4 : ¬ kp = 4 := by
    rcases hs3 with (⟨h1, _⟩ | ⟨h1, _⟩) | ⟨_, h2⟩
    · rw [h1]; decide
    · rw [h1]; decide
    · exact h2
  by_cases hq : kq = 2
  · subst hq
    simp only [Stp, if_true, if_neg hp4] at h ⊢
    split at h
    · rename_i hp
      have h0 := (h.2.2.2 0)
      refine ⟨h0.1, h0.2.1, h0.2.2.1.weaken (fun x hx => (opd_put d1 _ x hx).symm), fun b => ?_⟩
      rw [if_pos hp]
      refine ⟨h.1, h.2.1, h.2.2.1.weaken (fun x hx => opd_put d3 _ x hx), fun c => ?_⟩
      have h3 := (h.2.2.2 c).2.2.2 b
      refine hK _ _ _ _ _ (fun t => (put_swap d2 _ _ E t).symm) (fun F w hw => ?_) h3
      have := swap_hp (N := [(T.get ip).2 c]) (M := [(T.get iq).2 b]) (O := O) F w (by simpa using hw)
      simpa using this
    · rename_i hp
      obtain ⟨X, u, S, ⟨x0⟩, h1, h2, h3⟩ := h
      have h0 := h3 x0
      refine ⟨h0.1, h0.2.1, h0.2.2.1.weaken (fun x hx => (opd_put d1 _ x hx).symm), fun b => ?_⟩
      rw [if_neg hp]
      obtain ⟨S', h4, h5⟩ := h1.beside (e := (T.get iq).2 b)
      refine ⟨X, u, S', ⟨x0⟩, (Eff.put d3).2 h4, h2, fun x => ?_⟩
      exact hK _ _ _ _ _ (fun t => (put_swap d2 _ _ E t).symm) (h5 x) ((h3 x).2.2.2 b)
  · have h0 : (kp = 0 ∧ (kq = 0 ∨ kq = 1 ∨ kq = 5)) ∨ (kp = 5 ∧ (kq = 0 ∨ kq = 1 ∨ kq = 3 ∨ kq = 5)) := by
      rcases hs3 with (⟨h1, (h2 | h2) | h2⟩ | ⟨h1, ((h2 | h2) | h2) | h2⟩) | h2
      · exact .inl ⟨h1, .inl h2⟩
      · exact .inl ⟨h1, .inr (.inl h2)⟩
      · exact .inl ⟨h1, .inr (.inr h2)⟩
      · exact .inr ⟨h1, .inl h2⟩
      · exact .inr ⟨h1, .inr (.inl h2)⟩
      · exact .inr ⟨h1, .inr (.inr (.inl h2))⟩
      · exact .inr ⟨h1, .inr (.inr (.inr h2))⟩
      · exact absurd h2.1 hq
    have hp2 : ¬ kp = 2 := by rcases h0 with ⟨h, _⟩ | ⟨h, _⟩ <;> rw [h] <;> decide
    have hq4 : ¬ kq = 4 := by rcases h0 with ⟨_, h | h | h⟩ | ⟨_, h | h | h | h⟩ <;> rw [h] <;> decide
    simp only [Stp, if_neg hq, if_neg hp2, if_neg hp4, if_neg hq4] at h ⊢
    obtain ⟨X, u, S0, hX, h1, h2, h3⟩ := h
    -- the first is quiet, or does not come to its turn
    obtain ⟨u0, hu0, hp⟩ : ∃ u0, (∃ Y v S, Nonempty Y ∧ Eff P w0 ops R kq q (putE E p.dst u0) O Y v S ∧ DOk n q ∧ ∀ y, K (putE (putE E p.dst u0) q.dst (v y)) (S y) R) ∧
        ∀ E' O', (∀ x ∈ p.op.operands, E'.opd x = E.opd x) → (∀ g, Guard ops E p g → Guard ops E' p g) → (kp = 0 → ∀ w, Hp w0 (O' ++ R) w → Hp w0 (O ++ R) w) → Eff P w0 ops R kp p E' O' Unit (fun _ => u0) (fun _ => O') := by
      rcases h0 with ⟨rfl, _⟩ | ⟨rfl, _⟩
      · cases h1 with
        | skip hg => exact ⟨undef, h3 (), fun E' O' _ hg' _ => .skip (hg' _ hg)⟩
        | quiet hg hy => exact ⟨_, h3 (), fun E' O' hE hg' hO => .quiet (hg' _ hg) (hy.weaken hE (hO rfl))⟩
      · cases h1 with
        | skip hg => exact ⟨undef, h3 (), fun E' O' _ hg' _ => .skip (hg' _ hg)⟩
        | quietR hg hy => exact ⟨_, h3 (), fun E' O' hE hg' _ => .quietR (hg' _ hg) (hy.weaken hE fun _ h => h)⟩
    obtain ⟨Y, v, S, g0, g1, g2, g3⟩ := hu0
    have g1' := (Eff.put d1).1 g1
    refine ⟨Y, v, S, g0, g1', g2, fun y => ?_⟩
    have hsub : kp = 0 → ∀ w, Hp w0 (S y ++ R) w → Hp w0 (O ++ R) w := fun hk0 => by
      have hk : kq = 0 ∨ kq = 1 ∨ kq = 5 := by
        rcases h0 with ⟨_, h⟩ | ⟨h, _⟩
        · exact h
        · rw [hk0] at h; exact absurd h (by decide)
      cases g1' with
      | skip _ => exact fun _ h => h
      | quiet _ _ => exact fun _ h => h
      | quietR _ _ => exact fun _ h => h
      | make _ _ => exact fun w h => h.sub (by rw [List.append_assoc]; exact List.sublist_append_right _ _)
      | turn _ _ => rcases hk with h | h | h <;> exact absurd h (by decide)
    exact ⟨Unit, fun _ => u0, fun _ => S y, ⟨()⟩, hp _ _ (opd_put d3 _) (fun g hg => (guard_put d3).2 hg) hsub, h2, fun _ => hK _ _ _ _ _ (fun t => (put_swap d2 _ _ E t).symm) (hid _) (g3 y)⟩

/-! ### the order that is drawn -/
/-- Of any two that are walked in this order the second waits for the first, directly, or they may change places. -/
def pairsOk (ops : Array Oper) : List (Nat × Kd) → Bool
  | [] => true
  | (i, k) :: π => (π.all fun (j, kj) => match ops[i]?, ops[j]? with
    | some p, some q => Go.Proofs.Ytnommdpgmoljcaa.pairsOk.reach ops j i || swapOk ops k kj p q
    | _, _ => false) && pairsOk ops π

theorem pairsOk_mid {i : Nat} {k : Kd} : ∀ (A B : List (Nat × Kd)), pairsOk ops (A ++ (i, k) :: B) = true →
    (∀ j kj, (j, kj) ∈ A → ∃ p q, ops[j]? = some p ∧ ops[i]? = some q ∧ (Go.Proofs.Ytnommdpgmoljcaa.pairsOk.reach ops i j = true ∨ swapOk ops kj k p q = true)) ∧ pairsOk ops (A ++ B) = true
  | [], B, h => by
    simp only [List.nil_append, pairsOk, Bool.and_eq_true] at h
    exact ⟨fun _ _ h => by (cases h), h.2⟩
  | (j, kj) :: A, B, h => by
    simp only [List.cons_append, pairsOk, Bool.and_eq_true, List.all_eq_true] at h ⊢
    obtain ⟨h1, h2⟩ := h
    obtain ⟨g1, g2⟩ := pairsOk_mid A B h2
    refine ⟨fun j' kj' hj => ?_, fun x hx => h1 x ?_, g2⟩
    · rcases List.mem_cons.1 hj with hj | hj
      · cases hj
        have := h1 (i, k) (by simp)
        dsimp only at this
        cases hp : ops[j]? with
        | none => rw [hp] at this; simp at this
        | some p =>
          cases hq : ops[i]? with
          | none => rw [hp, hq] at this; simp at this
          | some q =>
            rw [hp, hq] at this
            exact ⟨p, q, rfl, rfl, by simpa using this⟩
      · exact g1 j' kj' hj
    · rcases List.mem_append.1 hx with hx | hx
      · exact List.mem_append.2 (.inl hx)
      · exact List.mem_append.2 (.inr (List.mem_cons_of_mem _ hx))


theorem SW.front {K : Env → List Ent → List Ent → Prop} (hK : Lax3 w0 K) {i : Nat} {k : Kd} {q : Oper} (hq : ops[i]? = some q) : ∀ (A B : List (Nat × Kd)) (E : Env) (O R : List Ent),
    (∀ j kj, (j, kj) ∈ A → ∃ p, ops[j]? = some p ∧ swapOk ops kj k p q = true) → SW P n w0 ops T K (A ++ (i, k) :: B) E O R → SW P n w0 ops T K ((i, k) :: (A ++ B)) E O R
  | [], _, _, _, _, _, h => h
  | (j, kj) :: A, B, E, O, R, hs, h => by
    obtain ⟨p, hp, h⟩ := h
    obtain ⟨p', hp', hsw⟩ := hs j kj List.mem_cons_self
    obtain rfl : p = p' := Option.some.inj (hp.symm.trans hp')
    have h2 : Stp P n w0 ops T kj j p E O R (fun E O R => Stp P n w0 ops T k i q E O R (SW P n w0 ops T K (A ++ B))) := by
      have ih := fun E O R => SW.front hK hq A B E O R (fun j kj hj => hs j kj (List.mem_cons_of_mem _ hj))
      have key : ∀ E O R, SW P n w0 ops T K (A ++ (i, k) :: B) E O R → Stp P n w0 ops T k i q E O R (SW P n w0 ops T K (A ++ B)) := fun E O R h => by
        obtain ⟨q', hq', h'⟩ := ih E O R h
        obtain rfl : q = q' := Option.some.inj (hq.symm.trans hq')
        exact h'
      simp only [Stp] at h ⊢
      split at h
      · rename_i hk; rw [if_pos hk]; exact ⟨h.1, h.2.1, h.2.2.1, fun b => key _ _ _ (h.2.2.2 b)⟩
      · rename_i hk; rw [if_neg hk]
        split at h
        · rename_i hk4; rw [if_pos hk4]
          obtain ⟨X, u, R, h0, h1, h2, h3, h4⟩ := h
          exact ⟨X, u, R, h0, h1, h2, h3, fun x => key _ _ _ (h4 x)⟩
        · rename_i hk4; rw [if_neg hk4]
          obtain ⟨X, u, R, h0, h1, h2, h3⟩ := h
          exact ⟨X, u, R, h0, h1, h2, fun x => key _ _ _ (h3 x)⟩
    have h3 := Stp.swap (SW.lax hK (A ++ B)) hsw h2
    refine ⟨q, hq, ?_⟩
    simp only [Stp] at h3 ⊢
    split at h3
    · rename_i hk; rw [if_pos hk]; exact ⟨h3.1, h3.2.1, h3.2.2.1, fun b => ⟨p, hp, h3.2.2.2 b⟩⟩
    · rename_i hk; rw [if_neg hk]
      split at h3
      · rename_i hk4; rw [if_pos hk4]
        obtain ⟨X, u, R, h0, h1, h2, h3, h4⟩ := h3
        exact ⟨X, u, R, h0, h1, h2, h3, fun x => ⟨p, hp, h4 x⟩⟩
      · rename_i hk4; rw [if_neg hk4]
        obtain ⟨X, u, R, h0, h1, h2, h4⟩ := h3
        exact ⟨X, u, R, h0, h1, h2, fun x => ⟨p, hp, h4 x⟩⟩

theorem Stp.wpOp {k : Kd} {o : Oper} {i : Nat} {Q : Exit → Act → World → Prop} {K : Env → List Ent → List Ent → Prop} {S : Act → World → Prop} (ho : ops[i]? = some o) (h : Stp P n w0 ops T k i o E O R K) (hR : ∀ E' O' R', K E' O' R' → VX n w0 (O' ++ R') E' S) {a : Act} {w : World} (ha : Models n E a) (hw : Hp w0 (O ++ R) w) : Go.wpOp P ops Q i S a w := by
  unfold Go.wpOp
  simp only [ho]
  simp only [Stp] at h
  split at h
  · obtain ⟨hg, hd, hA, h⟩ := h
    rw [if_pos (by simp [Region.wanted, hg])]
    refine .inl ?_
    unfold Oper.wp
    refine (hA a.eval w (ha.ev _)).upon fun v w' ⟨b, h1, h2, h3⟩ => ?_
    exact hR _ _ _ (h b) _ _ (models_put ha hd h1) (hw.new h2 h3)
  split at h
  · obtain ⟨X, u, R', _, hg, hy, hd, h3⟩ := h
    rw [if_pos (hg.wanted ha)]
    refine .inl ?_
    unfold Oper.wp
    refine (hy a.eval w [] (ha.ev _) (by simpa using hw)).upon fun v w' ⟨x, h1, h2⟩ => ?_
    exact hR _ _ _ (h3 x) _ _ (models_put ha hd h1) (by simpa using h2)
  · obtain ⟨X, u, R', _, h1, hd, h3⟩ := h
    cases h1 with
    | skip hg =>
      rw [if_neg (by rw [hg.wanted ha]; decide)]
      exact hR _ _ _ (h3 ()) _ _ (models_put ha hd (by simp [undef, cn])) hw
    | quiet hg hy =>
      rw [if_pos (hg.wanted ha)]
      refine .inl ?_
      unfold Oper.wp
      refine (hy a.eval w (ha.ev _) hw).upon fun v w' ⟨h1, h2⟩ => ?_
      exact hR _ _ _ (h3 ()) _ _ (models_put ha hd h1) (hw.ext h2)
    | quietR hg hy =>
      rw [if_pos (hg.wanted ha)]
      refine .inl ?_
      unfold Oper.wp
      refine (hy a.eval w (ha.ev _) (hw.sub (List.sublist_append_right _ _))).upon fun v w' ⟨h1, h2⟩ => ?_
      exact hR _ _ _ (h3 ()) _ _ (models_put ha hd h1) (hw.ext h2)
    | make hg hy =>
      rw [if_pos (hg.wanted ha)]
      refine .inl ?_
      unfold Oper.wp
      refine (hy a.eval w (ha.ev _) hw).upon fun v w' ⟨x, h1, h2, h4, h5⟩ => ?_
      exact hR _ _ _ (h3 x) _ _ (models_put ha hd h1) (by rw [List.append_assoc]; exact hw.news h2 h4 h5)
    | turn hg hy =>
      rw [if_pos (hg.wanted ha)]
      refine .inl ?_
      unfold Oper.wp
      refine (hy a.eval w [] (ha.ev _) (by simpa using hw)).upon fun v w' ⟨x, h1, h2⟩ => ?_
      exact hR _ _ _ (h3 x) _ _ (models_put ha hd h1) (by simpa using h2)

theorem any_of_walk {Q : Exit → Act → World → Prop} {K : Env → List Ent → List Ent → Prop} (hK : Lax3 w0 K) (hQ : ∀ E O R, K E O R → VX n w0 (O ++ R) E (Q .normal)) (hback : backOk ops = true) :
    ∀ (fuel : Nat) (π : List (Nat × Kd)) (listed : Array Bool) (E : Env) (O R : List Ent) (a : Act) (w : World), π.length ≤ fuel → listed.size = ops.size → (∀ j, j < ops.size → (listed.getD j true = false ↔ ∃ k, (j, k) ∈ π)) → (π.map (·.1)).Nodup →
      (∀ j o, ops[j]? = some o → listed.getD j false = true → ∀ e ∈ o.after, Region.binds .any e = true → listed.getD e.on false = true) → pairsOk ops π = true → SW P n w0 ops T K π E O R → Models n E a → Hp w0 (O ++ R) w → wpAny P .any ops Q fuel listed a w := by
  have hnone : ∀ (π : List (Nat × Kd)) (listed : Array Bool) (E : Env) (O R : List Ent) (a : Act) (w : World), listed.size = ops.size → (∀ j, j < ops.size → (listed.getD j true = false ↔ ∃ k, (j, k) ∈ π)) → Region.ready .any ops listed = [] → SW P n w0 ops T K π E O R → (∀ j k, (j, k) ∈ π → j < ops.size) → Models n E a → Hp w0 (O ++ R) w → Q .normal a w := by
    intro π listed E O R a w hsz hl hr hS hlt ha hw
    have hnil : π = [] := by
      apply Classical.byContradiction
      intro hne
      -- the least index that is not listed could come up
      have hex : ∃ j, j < ops.size ∧ listed.getD j true = false := by
        cases π with
        | nil => exact absurd rfl hne
        | cons x π => obtain ⟨j, k⟩ := x; exact ⟨j, hlt j k List.mem_cons_self, (hl j (hlt j k List.mem_cons_self)).2 ⟨k, List.mem_cons_self⟩⟩
      have hmin : ∀ m, (∃ j, j ≤ m ∧ j < ops.size ∧ listed.getD j true = false) → ∃ j, j < ops.size ∧ listed.getD j true = false ∧ ∀ i, i < j → listed.getD i true = true := by
        intro m
        induction m with
        | zero => rintro ⟨j, hj, h1, h2⟩; exact ⟨j, h1, h2, fun i hi => by omega⟩
        | succ m ih =>
          rintro ⟨j, hj, h1, h2⟩
          by_cases h : ∃ j, j ≤ m ∧ j < ops.size ∧ listed.getD j true = false
          · exact ih h
          · refine ⟨j, h1, h2, fun i hi => ?_⟩
            cases hi' : listed.getD i true with
            | true => rfl
            | false => exact absurd ⟨i, by omega, by omega, hi'⟩ h
      obtain ⟨j, hj⟩ := hex
      obtain ⟨j, h1, h2, h3⟩ := hmin j ⟨j, Nat.le_refl _, hj⟩
      have hmem : j ∈ Region.ready .any ops listed := by
        refine mem_ready.2 ⟨h2, ops[j], Array.getElem?_eq_getElem h1, fun e he hb => ?_⟩
        have hb' := List.all_eq_true.1 hback j (List.mem_range.2 h1)
        rw [Array.getElem?_eq_getElem h1] at hb'
        have hlt' := Array.all_eq_true'.1 hb' e he
        simp only [hb, Bool.not_true, Bool.false_or, decide_eq_true_eq] at hlt'
        have := h3 e.on hlt'
        have hs : e.on < listed.size := by omega
        simpa [hs] using this
      rw [hr] at hmem
      cases hmem
    subst hnil
    exact hQ E O R hS a w ha hw
  intro fuel
  induction fuel with
  | zero =>
    intro π listed E O R a w hf hsz hl _ _ _ hS ha hw
    have hnil : π = [] := List.eq_nil_of_length_eq_zero (by omega)
    subst hnil
    refine ⟨?_, hQ E O R hS a w ha hw⟩
    apply List.eq_nil_iff_forall_not_mem.2
    intro i hi
    obtain ⟨h1, o, h2, _⟩ := mem_ready.1 hi
    obtain ⟨k, hk⟩ := (hl i (Array.getElem?_eq_some_iff.1 h2).1).1 h1
    cases hk
  | succ fuel ih =>
    intro π listed E O R a w hf hsz hl hnd hcl hp hS ha hw
    refine ⟨fun hr => ?_, fun i hi => ?_⟩
    · -- nothing may come up
      refine hnone π listed E O R a w hsz hl hr hS (fun j k hj => ?_) ha hw
      -- an index of π is one of the region's
      have : ∀ (π : List (Nat × Kd)), pairsOk ops π = true → 2 ≤ π.length → ∀ j k, (j, k) ∈ π → j < ops.size := by
        intro π hp h2 j k hj
        obtain ⟨A, B, rfl⟩ := List.append_of_mem hj
        cases A with
        | nil =>
          cases B with
          | nil => simp at h2
          | cons y B =>
            simp only [List.nil_append, pairsOk, Bool.and_eq_true, List.all_eq_true] at hp
            have := hp.1 y List.mem_cons_self
            obtain ⟨y1, y2⟩ := y
            dsimp only at this
            cases hj' : ops[j]? with
            | none => rw [hj'] at this; simp at this
            | some o => exact (Array.getElem?_eq_some_iff.1 hj').1
        | cons x A =>
          obtain ⟨x1, x2⟩ := x
          obtain ⟨g, _⟩ := pairsOk_mid ((x1, x2) :: A) B hp
          obtain ⟨p, q, _, hq, _⟩ := g x1 x2 List.mem_cons_self
          exact (Array.getElem?_eq_some_iff.1 hq).1
      by_cases h2 : 2 ≤ π.length
      · exact this π hp h2 j k hj
      · cases π with
        | nil => cases hj
        | cons x π =>
          have : π = [] := List.eq_nil_of_length_eq_zero (by simp only [List.length_cons] at h2; omega)
          subst this
          simp only [List.mem_singleton] at hj
          subst hj
          obtain ⟨o, ho, _⟩ := hS
          exact (Array.getElem?_eq_some_iff.1 ho).1
    · obtain ⟨h1, o, h2, h3⟩ := mem_ready.1 hi
      have hlt := (Array.getElem?_eq_some_iff.1 h2).1
      obtain ⟨k, hk⟩ := (hl i hlt).1 h1
      obtain ⟨A, B, rfl⟩ := List.append_of_mem hk
      obtain ⟨g1, g2⟩ := pairsOk_mid A B hp
      have hnot : ∀ j kj, (j, kj) ∈ A → listed.getD j false = false := fun j kj hj => by
        obtain ⟨p, q, hp', _⟩ := g1 j kj hj
        have := (hl j (Array.getElem?_eq_some_iff.1 hp').1).2 ⟨kj, List.mem_append.2 (.inl hj)⟩
        exact getDb this
      have hsw : ∀ j kj, (j, kj) ∈ A → ∃ p, ops[j]? = some p ∧ swapOk ops kj k p o = true := fun j kj hj => by
        obtain ⟨p, q, hp', hq', h⟩ := g1 j kj hj
        obtain rfl : o = q := Option.some.inj (h2.symm.trans hq')
        rcases h with h | h
        · have := reach_listed hcl ops.size [i] j (fun j' hj' o' ho' e he hb => by
            simp only [List.mem_singleton] at hj'
            subst hj'
            obtain rfl : o = o' := Option.some.inj (h2.symm.trans ho')
            exact h3 e he hb) h
          rw [hnot j kj hj] at this
          cases this
        · exact ⟨p, hp', h⟩
      have hfront := SW.front hK h2 A B E O R hsw hS
      obtain ⟨o', ho', hst⟩ := hfront
      obtain rfl : o = o' := Option.some.inj (h2.symm.trans ho')
      have hi' : i < listed.size := by omega
      refine Stp.wpOp (ops := ops) h2 hst (fun E' O' R' hS' a' w' ha' hw' => ?_) ha hw
      refine ih (A ++ B) _ E' O' R' a' w' (by simp only [List.length_append, List.length_cons] at hf ⊢; omega) (by simpa using hsz) (fun j hj => ?_) ?_ (fun j oj hoj hlj e he hb => ?_) g2 hS' ha' hw'
      · rw [getD_set hi']
        have hndi : ∀ k', (i, k') ∉ A ++ B := by
          intro k' hk'
          simp only [List.map_append, List.map_cons] at hnd
          rw [List.nodup_append] at hnd
          obtain ⟨n1, n2, n3⟩ := hnd
          rcases List.mem_append.1 hk' with hk' | hk'
          · exact n3 i (List.mem_map_of_mem (f := (·.1)) hk') i List.mem_cons_self rfl
          · exact (List.nodup_cons.1 n2).1 (List.mem_map_of_mem (f := (·.1)) hk')
        by_cases hij : i = j
        · subst hij
          rw [if_pos rfl]
          exact ⟨fun h => by (cases h), fun ⟨k', hk'⟩ => absurd hk' (hndi k')⟩
        · rw [if_neg hij, hl j hj]
          constructor
          · rintro ⟨k', hk'⟩
            refine ⟨k', ?_⟩
            rcases List.mem_append.1 hk' with hk' | hk'
            · exact List.mem_append.2 (.inl hk')
            · rcases List.mem_cons.1 hk' with hk' | hk'
              · cases hk'; exact absurd rfl hij
              · exact List.mem_append.2 (.inr hk')
          · rintro ⟨k', hk'⟩
            refine ⟨k', ?_⟩
            rcases List.mem_append.1 hk' with hk' | hk'
            · exact List.mem_append.2 (.inl hk')
            · exact List.mem_append.2 (.inr (List.mem_cons_of_mem _ hk'))
      · simp only [List.map_append, List.map_cons] at hnd ⊢
        exact hnd.sublist (List.Sublist.append_left (List.sublist_cons_self _ _) _)
      · rw [getD_set hi'] at hlj ⊢
        split at hlj
        · rename_i hij
          subst hij
          obtain rfl : o = oj := Option.some.inj (h2.symm.trans hoj)
          rw [h3 e he hb]
          split <;> rfl
        · rw [hcl j oj hoj hlj e he hb]
          split <;> rfl


/-- **A region that draws its order, walked in the order π: S turns, R is only read.** -/
theorem V.drawR {id : Nat} {l : List Oper} {Q : Exit → Act → World → Prop} (π : List (Nat × Kd)) (T : Tab) (S R : List Ent) (hm : P.follows .mixedOrders = true) (hok : (permOk l.length π && pairsOk l.toArray π && backOk l.toArray) = true) (hO : ∀ w, Hp w0 O w → Hp w0 (S ++ R) w)
    (h : SW P n w0 l.toArray T (fun E S R => VE n w0 (S ++ R) E Q .normal) π E S R) : V P n w0 O E (.region id l.toArray true) Q := by
  intro a w ha hw
  simp only [Bool.and_eq_true] at hok
  obtain ⟨⟨h1, h2⟩, h3⟩ := hok
  obtain ⟨n1, n2⟩ := permOk_nodup h1
  refine wp_region_any hm ?_
  have hlen : π.length = l.toArray.size := by
    simp only [permOk, Bool.and_eq_true, decide_eq_true_eq] at h1
    simpa using h1.1.2
  refine any_of_walk (K := fun E S R => VE n w0 (S ++ R) E Q .normal) (fun E E' O O' R hE hO h a w ha hw => h a w (ha.mono fun t u ht => by rw [hE]; exact ht) (hp_nil (frame hO) w hw)) (fun _ _ _ h => h) h3 _ π _ E S R a _ (by omega) (by simp) (fun j hj => ?_) n1 (fun j o _ hj => ?_) h2 h ha ((hO _ hw).ext (below_drew _ _))
  · simp only [List.size_toArray] at hj
    exact ⟨fun _ => n2 j hj, fun _ => by simp [hj]⟩
  · rw [getD_replicate_false'] at hj
    cases hj
where
  getD_replicate_false' {m j : Nat} : (Array.replicate m false).getD j false = false := by
    rcases Nat.lt_or_ge j m with h | h
    · simp [h]
    · simp [h]

/-! ### steps of such a walk -/
section
variable {o : Oper} {i d : Nat} {π : List (Nat × Kd)} {K : Env → List Ent → List Ent → Prop}
theorem SW.q {u : Value} (ho : ops[i]? = some o) (hg : Wants ops E o) (hd : o.dst = some d) (hdn : d < n) (hy : YQ P w0 (O ++ R) E o u) (h : SW P n w0 ops T K π ((d, u) :: E) O R) : SW P n w0 ops T K ((i, 0) :: π) E O R :=
  ⟨o, ho, by rw [Stp, if_neg (by decide), if_neg (by decide)]; exact ⟨_, _, _, ⟨()⟩, .quiet hg.guard hy, dok hd hdn, fun _ => by rw [hd]; exact h⟩⟩
theorem SW.p {u : Value} (ho : ops[i]? = some o) (hg : Wants ops E o) (hd : o.dst = some d) (hdn : d < n) (hy : YQ P w0 R E o u) (h : SW P n w0 ops T K π ((d, u) :: E) O R) : SW P n w0 ops T K ((i, 5) :: π) E O R :=
  ⟨o, ho, by rw [Stp, if_neg (by decide), if_neg (by decide)]; exact ⟨_, _, _, ⟨()⟩, .quietR hg.guard hy, dok hd hdn, fun _ => by rw [hd]; exact h⟩⟩
theorem SW.r {u : Value} (ho : ops[i]? = some o) (hg : Wants ops E o) (hd : o.dst = some d) (hdn : d < n) (hy : YR P E o u) (h : SW P n w0 ops T K π ((d, u) :: E) O R) : SW P n w0 ops T K ((i, 5) :: π) E O R := SW.p ho hg hd hdn hy.q h
theorem SW.new {X : Type} [hX : Nonempty X] {u : X → Value} {N : X → List Ent} (ho : ops[i]? = some o) (hg : Wants ops E o) (hd : o.dst = some d) (hdn : d < n) (hy : YN P w0 (O ++ R) E o u N) (h : ∀ x, SW P n w0 ops T K π ((d, u x) :: E) (N x ++ O) R) : SW P n w0 ops T K ((i, 1) :: π) E O R :=
  ⟨o, ho, by rw [Stp, if_neg (by decide), if_neg (by decide)]; exact ⟨_, _, _, hX, .make hg.guard hy, dok hd hdn, fun x => by rw [hd]; exact h x⟩⟩
theorem SW.new1 {X : Type} [Nonempty X] {u : X → Value} {N : X → Ent} (ho : ops[i]? = some o) (hg : Wants ops E o) (hd : o.dst = some d) (hdn : d < n) (hy : YN P w0 (O ++ R) E o u (fun x => [N x])) (h : ∀ x, SW P n w0 ops T K π ((d, u x) :: E) (N x :: O) R) : SW P n w0 ops T K ((i, 1) :: π) E O R := SW.new ho hg hd hdn hy h
theorem SW.a {u : Nat → Value} {e : Nat → Ent} (ho : ops[i]? = some o) (hg : o.guard = none) (hd : o.dst = some d) (hdn : d < n) (hT : T.get i = (u, e)) (hy : ∀ w0, YN P w0 [] E o u (fun b => [e b])) (h : ∀ b, SW P n w0 ops T K π ((d, u b) :: E) (e b :: O) R) : SW P n w0 ops T K ((i, 2) :: π) E O R :=
  ⟨o, ho, by
    rw [Stp, if_pos rfl, hT]
    exact ⟨hg, dok hd hdn, YA.of hy, fun b => by rw [hd]; exact h b⟩⟩
theorem SW.c {X : Type} [hX : Nonempty X] {u : X → Value} {O' : X → List Ent} (ho : ops[i]? = some o) (hg : Wants ops E o) (hd : o.dst = some d) (hdn : d < n) (hy : YC P w0 (O ++ R) E o u (fun x => O' x ++ R)) (h : ∀ x, SW P n w0 ops T K π ((d, u x) :: E) (O' x) R) : SW P n w0 ops T K ((i, 3) :: π) E O R :=
  ⟨o, ho, by rw [Stp, if_neg (by decide), if_neg (by decide)]; exact ⟨_, _, _, hX, .turn hg.guard hy, dok hd hdn, fun x => by rw [hd]; exact h x⟩⟩
theorem SW.s {X : Type} [hX : Nonempty X] {u : X → Value} {O' : X → List Ent} (ho : ops[i]? = some o) (hg : Wants ops E o) (hd : o.dst = none) (hy : YC P w0 (O ++ R) E o u (fun x => O' x ++ R)) (h : ∀ x, SW P n w0 ops T K π E (O' x) R) : SW P n w0 ops T K ((i, 3) :: π) E O R :=
  ⟨o, ho, by rw [Stp, if_neg (by decide), if_neg (by decide)]; exact ⟨_, _, _, hX, .turn hg.guard hy, (fun d' h' => by rw [hd] at h'; cases h'), fun x => by rw [hd]; exact h x⟩⟩
theorem SW.no {k : Kd} {j t : Nat} {b b' : Bool} (ho : ops[i]? = some o) (hk : k ≠ 2 ∧ k ≠ 4) (hg : o.guard = some (j, b)) (hj : (ops[j]?).bind (·.dst) = some t) (hb : E.get t = some (.bool b')) (hne : (b' == b) = false) (hd : o.dst = some d) (hdn : d < n)
    (h : SW P n w0 ops T K π ((d, undef) :: E) O R) : SW P n w0 ops T K ((i, k) :: π) E O R :=
  ⟨o, ho, by
    rw [Stp, if_neg hk.1, if_neg hk.2]
    refine ⟨_, _, _, ⟨()⟩, .skip (hne ▸ Guard.some hg hj hb), dok hd hdn, fun _ => by rw [hd]; exact h⟩⟩
theorem SW.split (hK : Lax3 w0 K) (t : Nat) (b : Bool) (hb : E.get t = some (.bool b)) (ht : b = true → SW P n w0 ops T K π ((t, .bool true) :: E) O R) (hf : b = false → SW P n w0 ops T K π ((t, .bool false) :: E) O R) : SW P n w0 ops T K π E O R := by
  cases b with
  | true => exact SW.lax hK π _ _ _ _ _ (fun s => (Env.get_shadow t _ E hb s).symm) (fun _ _ h => h) (ht rfl)
  | false => exact SW.lax hK π _ _ _ _ _ (fun s => (Env.get_shadow t _ E hb s).symm) (fun _ _ h => h) (hf rfl)
theorem eqO {O' : List Ent} {S : Act → World → Prop} (h : O = O') (hk : VX n w0 O' E S) : VX n w0 O E S := h ▸ hk
theorem UpdF.app {X : Type} {S R : List Ent} {e : Ent} {f : X → Ent} {S' : X → List Ent} (h : UpdF S e f S') : UpdF (S ++ R) e f (fun x => S' x ++ R) := by
  induction h with
  | here => exact UpdF.here
  | there _ ih => exact UpdF.there ih
  | thereS _ ih =>
    rename_i S1 O1 _ _ _
    have := UpdF.thereS (S := S1) ih
    simpa only [List.append_assoc] using this
theorem SW.t {X : Type} [hX : Nonempty X] {u : X → Value} {O' : X → List Ent} (ho : ops[i]? = some o) (hg : Wants ops E o) (hd : o.dst = none) (hy : YC P w0 (O ++ R) E o u O') (h : ∀ x, SW P n w0 ops T K π E (O' x) []) : SW P n w0 ops T K ((i, 4) :: π) E O R :=
  ⟨o, ho, by rw [Stp, if_neg (by decide), if_pos rfl]; exact ⟨_, _, _, hX, hg.guard, hy, (fun d' h' => by rw [hd] at h'; cases h'), fun x => by rw [hd]; exact h x⟩⟩
theorem SW.done (h : K E O R) : SW P n w0 ops T K [] E O R := h
end
end
end Dr
theorem Hp.pick {w0 w : World} {O M F : List Ent} (hw : Hp w0 O w) (h : Pick O M F) : Hp w0 M w := (hw.perm' h.perm).sub (List.sublist_append_right _ _)
end Go.Proofs.Ytnommdpgmoljcaa


namespace Go.Proofs.Ytnommdpgmoljcaa
open Go.RowKit

section
variable {P : Program} {E : Env} {o : Oper}
end

theorem in_t {n lo hi : Int} (h : lo ≤ n) : icmp .leq n hi = decide (lo ≤ n ∧ n ≤ hi) := by
  rw [Bool.eq_iff_iff, decide_eq_true_eq]
  constructor
  · intro h; have := ic_leq h; omega
  · rintro ⟨_, h⟩; exact decide_eq_true h
theorem in_f {n lo hi : Int} (h : n < lo) : false = decide (lo ≤ n ∧ n ≤ hi) := by
  symm; rw [decide_eq_false_iff_not]; omega
theorem can_f0 : Can .f32 0 := ⟨by decide, by decide⟩
end Go.Proofs.Ytnommdpgmoljcaa


namespace Go.Proofs.Ytnommdpgmoljcaa

def sqrt32 (x : Nat) : Nat := fconv .f64 .f32 (fsqrt (fconv .f32 .f64 x))
end Go.Proofs.Ytnommdpgmoljcaa


namespace Go.Proofs.Ytnommdpgmoljcaa
open Go.RowKit

abbrev V3 := Nat × Nat × Nat
def z3 : V3 := (0, 0, 0)
def vcs (v : V3) : List Value := [.float .f32 v.1, .float .f32 v.2.1, .float .f32 v.2.2]
def vv (v : V3) : Value := .agg #[.float .f32 v.1, .float .f32 v.2.1, .float .f32 v.2.2]
def vl : List V3 → List Value
  | [] => []
  | v :: vs => .float .f32 v.1 :: .float .f32 v.2.1 :: .float .f32 v.2.2 :: vl vs
theorem vl_length : ∀ vs : List V3, (vl vs).length = vs.length * 3
  | [] => rfl
  | v :: vs => by simp only [vl, List.length_cons, vl_length vs]; omega
theorem vl_scal : ∀ vs : List V3, (vl vs).all scal = true
  | [] => rfl
  | v :: vs => by simp only [vl, List.all_cons, vl_scal vs, scal, Bool.and_self]
theorem vl_append : ∀ us vs : List V3, vl us ++ vl vs = vl (us ++ vs)
  | [], vs => rfl
  | u :: us, vs => by simp only [vl, List.cons_append, vl_append us vs]
theorem vl_snoc (us : List V3) (v : V3) : vl us ++ [.float .f32 v.1, .float .f32 v.2.1, .float .f32 v.2.2] = vl (us ++ [v]) := vl_append us [v]
theorem vl_take : ∀ (vs : List V3) (k : Nat), k < vs.length → ((vl vs).drop (k * 3)).take 3 = vcs (vs.getD k z3)
  | [], _, h => by simp at h
  | v :: vs, 0, _ => rfl
  | v :: vs, k + 1, h => by
    have ih := vl_take vs k (by simpa using h)
    rw [show (k + 1) * 3 = k * 3 + 1 + 1 + 1 by omega]
    simpa [vl, List.getD] using ih
section
variable {P : Program} {n : Nat} {w0 : World} {O : List Ent} {E : Env} {o : Oper}
theorem yq_loadV {t : TypeId} {x : Operand} {a : Option Addr} {k : Nat} {vs : List V3} {fs : Array Field} (ho : o.op = .load t x) (ht : P.underlying t = some (.struct fs)) (hz : (P.info? t).map (·.size) = some 3) (hx : E.opd x = some (.pointer (some (adr a (k * 3))))) (hs : Sees w0 O a (vl vs)) (hk : k < vs.length) :
    YQ P w0 O E o (vv (vs.getD k z3)) :=
  yq_loadS (cs := vcs (vs.getD k z3)) ho ht hz hx hs (vl_take vs k hk) rfl rfl
end

def add3 (a b : V3) : V3 := (fop .add .f32 a.1 b.1, fop .add .f32 a.2.1 b.2.1, fop .add .f32 a.2.2 b.2.2)
def sub3 (a b : V3) : V3 := (fop .sub .f32 a.1 b.1, fop .sub .f32 a.2.1 b.2.1, fop .sub .f32 a.2.2 b.2.2)
def scale3 (a : V3) (k : Nat) : V3 := (fop .mul .f32 a.1 k, fop .mul .f32 a.2.1 k, fop .mul .f32 a.2.2 k)
def inner3 (a b : V3) : Nat := fop .add .f32 (fop .add .f32 (fop .mul .f32 a.1 b.1) (fop .mul .f32 a.2.1 b.2.1)) (fop .mul .f32 a.2.2 b.2.2)
def cross3 (a b : V3) : V3 := (fop .sub .f32 (fop .mul .f32 a.2.1 b.2.2) (fop .mul .f32 a.2.2 b.2.1), fop .sub .f32 (fop .mul .f32 a.2.2 b.1) (fop .mul .f32 a.1 b.2.2), fop .sub .f32 (fop .mul .f32 a.1 b.2.1) (fop .mul .f32 a.2.1 b.1))
def long3 (a : V3) : Nat := sqrt32 (inner3 a a)
def fin3 (a : V3) : Bool := fin a.1 && fin a.2.1 && fin a.2.2
def Can3 (a : V3) : Prop := Can .f32 a.1 ∧ Can .f32 a.2.1 ∧ Can .f32 a.2.2
theorem can_z3 : Can3 z3 := ⟨can_f0, can_f0, can_f0⟩
theorem fin3_t {a : V3} (h1 : fin a.1 = true) (h2 : fin a.2.1 = true) : fin a.2.2 = fin3 a := by unfold fin3; rw [h1, h2]; rfl
theorem fin3_f1 {a : V3} (h1 : fin a.1 = false) : false = fin3 a := by unfold fin3; rw [h1]; rfl
theorem fin3_f2 {a : V3} (h1 : fin a.1 = true) (h2 : fin a.2.1 = false) : false = fin3 a := by unfold fin3; rw [h1, h2]; rfl
/-! ### the field of a segment -/
def segX (a b p : V3) : Nat := fop .mul .f32 (long3 (sub3 p a)) (long3 (sub3 p b))
def segD (a b p : V3) : Nat := fop .mul .f32 (segX a b p) (fop .add .f32 (segX a b p) (inner3 (sub3 p a) (sub3 p b)))
def segQ (a b p : V3) : Nat := fop .quo .f32 (fop .add .f32 (long3 (sub3 p a)) (long3 (sub3 p b))) (segD a b p)
def segF (a b p : V3) : V3 := if fcmp .gtr .f32 (segD a b p) 0 && fin (segQ a b p) then scale3 (cross3 (sub3 p a) (sub3 p b)) (segQ a b p) else z3
end Go.Proofs.Ytnommdpgmoljcaa


namespace Go.Proofs.Ytnommdpgmoljcaa
open Go.RowKit

abbrev Wr := List V3 × Bool × Nat
def zw : Wr := ([], false, 0)
def wcs (p : Option Addr × Nat) (w : Wr) : List Value := [.slice p.1 w.1.length p.2, .bool w.2.1, .float .f32 w.2.2]
def whdF (f : Nat → Option Addr × Nat) : Nat → List Wr → List Value
  | _, [] => []
  | i, w :: ws => .slice (f i).1 w.1.length (f i).2 :: .bool w.2.1 :: .float .f32 w.2.2 :: whdF f (i + 1) ws
def whd (f : Nat → Option Addr × Nat) (ws : List Wr) : List Value := whdF f 0 ws
theorem whdF_length (f : Nat → Option Addr × Nat) : ∀ (ws : List Wr) (i : Nat), (whdF f i ws).length = ws.length * 3
  | [], _ => rfl
  | w :: ws, i => by simp only [whdF, List.length_cons, whdF_length f ws]; omega
theorem whd_length (f : Nat → Option Addr × Nat) (ws : List Wr) : (whd f ws).length = ws.length * 3 := whdF_length f ws 0
theorem whdF_scal (f : Nat → Option Addr × Nat) : ∀ (ws : List Wr) (i : Nat), (whdF f i ws).all scal = true
  | [], _ => rfl
  | w :: ws, i => by simp only [whdF, List.all_cons, whdF_scal f ws, scal, Bool.and_self]
theorem whd_scal (f : Nat → Option Addr × Nat) (ws : List Wr) : (whd f ws).all scal = true := whdF_scal f ws 0
theorem whdF_take (f : Nat → Option Addr × Nat) : ∀ (ws : List Wr) (i k : Nat), k < ws.length → ((whdF f i ws).drop (k * 3)).take 3 = wcs (f (i + k)) (ws.getD k zw)
  | [], _, _, h => by simp at h
  | w :: ws, i, 0, _ => rfl
  | w :: ws, i, k + 1, h => by
    have ih := whdF_take f ws (i + 1) k (by simpa using h)
    rw [show (k + 1) * 3 = k * 3 + 1 + 1 + 1 by omega, show i + (k + 1) = i + 1 + k by omega]
    simpa [whdF, List.getD] using ih
theorem whd_take {f : Nat → Option Addr × Nat} {ws : List Wr} {k : Nat} (h : k < ws.length) : ((whd f ws).drop (k * 3)).take 3 = wcs (f k) (ws.getD k zw) := by
  have := whdF_take f ws 0 k h
  rwa [Nat.zero_add] at this
theorem take_get {us cs : List Value} {k j : Nat} (h : (us.drop k).take 3 = cs) (hj : j < 3) : us[k + j]? = cs[j]? := by
  subst h
  rw [List.getElem?_take, if_pos hj, List.getElem?_drop]
theorem whd_get0 {f : Nat → Option Addr × Nat} {ws : List Wr} {k : Nat} (h : k < ws.length) : (whd f ws)[k * 3]? = some (.slice (f k).1 (ws.getD k zw).1.length (f k).2) := take_get (j := 0) (whd_take h) (by decide)
def wrents (t : TypeId) (f : Nat → Option Addr × Nat) (ws : List Wr) : List Ent := (List.range ws.length).map fun i => ⟨(f i).1, vl (ws.getD i zw).1, (f i).2 * 3, t⟩
theorem wrents_mem {t : TypeId} {f : Nat → Option Addr × Nat} {ws : List Wr} {i : Nat} (h : i < ws.length) : (⟨(f i).1, vl (ws.getD i zw).1, (f i).2 * 3, t⟩ : Ent) ∈ wrents t f ws := by
  unfold wrents
  exact List.mem_map.2 ⟨i, by simpa using h, rfl⟩
/-- Each wire's points lie where its header says. -/
def WRws (w : World) (f : Nat → Option Addr × Nat) (ws : List Wr) : Prop := ∀ i, i < ws.length → Cl w (f i).1 (vl (ws.getD i zw).1)
theorem WRws.below {w w' : World} {f : Nat → Option Addr × Nat} {ws : List Wr} (h : WRws w f ws) (hb : Below w.heap.size w w') : WRws w' f ws := fun i hi => (h i hi).below hb
theorem WRws.root {w0 w : World} {O : List Ent} {f : Nat → Option Addr × Nat} {ws : List Wr} (h : WRws w0 f ws) (hw : Hp w0 O w) : WRws w f ws := h.below hw.below
inductive WRowsIn : List Ent → TypeId → (Nat → Option Addr × Nat) → List Wr → Prop
  | here {t : TypeId} {f : Nat → Option Addr × Nat} {ws : List Wr} {O : List Ent} : WRowsIn (wrents t f ws ++ O) t f ws
  | last {t : TypeId} {f : Nat → Option Addr × Nat} {ws : List Wr} : WRowsIn (wrents t f ws) t f ws
  | there {t : TypeId} {f : Nat → Option Addr × Nat} {ws : List Wr} {e : Ent} {O : List Ent} : WRowsIn O t f ws → WRowsIn (e :: O) t f ws
  | thereS {t : TypeId} {f : Nat → Option Addr × Nat} {ws : List Wr} {S O : List Ent} : WRowsIn O t f ws → WRowsIn (S ++ O) t f ws
theorem WRowsIn.mem {O : List Ent} {t : TypeId} {f : Nat → Option Addr × Nat} {ws : List Wr} (h : WRowsIn O t f ws) : ∀ i, i < ws.length → (⟨(f i).1, vl (ws.getD i zw).1, (f i).2 * 3, t⟩ : Ent) ∈ O := by
  induction h with
  | here => exact fun i hi => List.mem_append_left _ (wrents_mem hi)
  | last => exact fun i hi => wrents_mem hi
  | there _ ih => exact fun i hi => List.mem_cons_of_mem _ (ih i hi)
  | thereS _ ih => exact fun i hi => List.mem_append_right _ (ih i hi)
theorem WRws.own {w0 w : World} {O : List Ent} {t : TypeId} {f : Nat → Option Addr × Nat} {ws : List Wr} (h : WRowsIn O t f ws) (hw : Hp w0 O w) : WRws w f ws := fun i hi => Sees.own (h.mem i hi) w hw
def Cans3 (vs : List V3) : Prop := ∀ v ∈ vs, Can3 v
theorem Cans3.row {vs : List V3} (h : Cans3 vs) {k : Nat} (hk : k < vs.length) : Can3 (vs.getD k z3) := h _ (by simp [hk])
def CansW (ws : List Wr) : Prop := ∀ w ∈ ws, Cans3 w.1 ∧ Can .f32 w.2.2
theorem CansW.row {ws : List Wr} (h : CansW ws) {k : Nat} (hk : k < ws.length) : Cans3 (ws.getD k zw).1 ∧ Can .f32 (ws.getD k zw).2.2 := h _ (by simp [hk])
section
variable {P : Program} {n : Nat} {w0 : World} {O : List Ent} {E : Env} {o : Oper}
end

/-! ### sizes -/
/-! ### what is valid -/
section
variable {ps : List V3} {cl : Bool} {cur : Nat}
end
/-! ### the field -/
def segN (w : Wr) : Nat := if w.2.1 then w.1.length else w.1.length - 1
def segA (w : Wr) (i : Nat) : V3 := w.1.getD i z3
def segB (w : Wr) (i : Nat) : V3 := w.1.getD ((i + 1) % w.1.length) z3
def sumW (w : Wr) (p : V3) : Nat → V3
  | 0 => z3
  | i + 1 => add3 (sumW w p i) (segF (segA w i) (segB w i) p)
def wireF (w : Wr) (p : V3) : V3 := scale3 (sumW w p (segN w)) w.2.2
def sumA (ws : List Wr) (p s0 : V3) : Nat → V3
  | 0 => s0
  | i + 1 => add3 (sumA ws p s0 i) (wireF (ws.getD i zw) p)
/-- The field, as the program makes it. -/
def fieldI (ws : List Wr) (p : V3) : V3 := sumA ws p z3 ws.length
/-- The field, as the reference makes it. -/
def fieldS (ws : List Wr) (p : V3) : V3 := sumA ws p (if fin3 p then z3 else sub3 p p) ws.length
end Go.Proofs.Ytnommdpgmoljcaa


namespace Go.Proofs.Ytnommdpgmoljcaa
open Go.RowKit

theorem tmod_nat (i n : Nat) : ((i : Int) + 1).tmod (n : Int) = (((i + 1) % n : Nat) : Int) := by
  rw [show ((i : Int) + 1) = ((i + 1 : Nat) : Int) by omega]
  exact (Int.ofNat_tmod _ _).symm
section
variable {P : Program} {n : Nat} {w0 : World} {O : List Ent} {E : Env} {o : Oper}
end
end Go.Proofs.Ytnommdpgmoljcaa


namespace Go.Proofs.Ytnommdpgmoljcaa
open Go.RowKit

section
variable {x : Nat} {ok : Bool} {s : Nat × Nat × Bool}
end
section
variable {ws : List Wr} {vs : List V3} {way : V3}
end
end Go.Proofs.Ytnommdpgmoljcaa


namespace Go.Proofs.Ytnommdpgmoljcaa
open Go.RowKit

def unit3 (v : V3) : V3 := scale3 v (fop .quo .f32 1065353216 (long3 v))
def dirI (ws : List Wr) (p : V3) : V3 := unit3 (fieldI ws p)
def dirOk (ws : List Wr) (p : V3) : Bool := fin3 p && fin3 (dirI ws p)
def dirV (ws : List Wr) (p : V3) : V3 := if dirOk ws p then dirI ws p else z3
def midI (ws : List Wr) (p : V3) (st : Nat) : V3 := add3 p (scale3 (dirI ws p) (fop .mul .f32 1056964608 st))
def endI (ws : List Wr) (p : V3) (st : Nat) : V3 := add3 p (scale3 (dirI ws (midI ws p st)) st)
def stepOk (ws : List Wr) (p : V3) (st : Nat) : Bool := dirOk ws p && dirOk ws (midI ws p st) && fin3 (endI ws p st)
def stepV (ws : List Wr) (p : V3) (st : Nat) : V3 := if stepOk ws p st then endI ws p st else z3
section
variable {ws : List Wr} {p m : V3} {st : Nat}
end

/-! ### the checked step -/
section
variable {ws : List Wr} {p m : V3} {st : Nat}
end
end Go.Proofs.Ytnommdpgmoljcaa


namespace Go.Proofs.Ytnommdpgmoljcaa
open Go.RowKit

end Go.Proofs.Ytnommdpgmoljcaa


namespace Go.Proofs.Ytnommdpgmoljcaa
open Go.RowKit

/-- The double x stands for a number below 2 ^ (t + 1). -/
def small (t : Int) (x : Nat) : Prop := ∃ s m e, FloatKind.f64.decode x = .number s m e ∧ e + (m.log2 : Int) ≤ t
theorem log2_lt' {m k : Nat} (h : m < 2 ^ k) (hk : 0 < k) : m.log2 < k := by
  rcases Nat.eq_zero_or_pos m with h0 | h0
  · subst h0; simpa using hk
  · exact (Nat.log2_lt (by omega)).2 h
theorem lt_log2 (m : Nat) : m < 2 ^ (m.log2 + 1) := Nat.lt_log2_self
theorem log2_mono {a b : Nat} (h : a ≤ b) : a.log2 ≤ b.log2 := by
  rcases Nat.eq_zero_or_pos a with h0 | h0
  · subst h0; simp
  · have := Nat.log2_self_le (n := a) (by omega)
    have h2 : 2 ^ a.log2 < 2 ^ (b.log2 + 1) := Nat.lt_of_le_of_lt this (Nat.lt_of_le_of_lt h (lt_log2 b))
    have := (Nat.pow_lt_pow_iff_right (a := 2) (by decide)).1 h2
    omega
theorem small_encode (s : Bool) {m : Nat} {e : Int} {t : Nat} (h : e + (m.log2 : Int) ≤ t) (ht : t ≤ 60) : small (t + 2) (FloatKind.f64.encode (.number s m e)) := by
  obtain ⟨m', e', g1, g2⟩ := encode_small s (m := m) (e := e) (t := t + 1022) (by omega) (by omega)
  exact ⟨s, m', e', g1, by omega⟩
theorem small_quo {a b : Nat} {sa sb : Bool} {m n i j : Nat} (ha : Ieee.double.read a = .number sa m (-1074 + (i : Int))) (hb : Ieee.double.read b = .number sb n (-1074 + (j : Int))) (hn : n ≠ 0) (h : i + m.log2 ≤ j + n.log2) : small 2 (fop .quo .f64 a b) := by
  have e : fop .quo .f64 a b = ((((Ieee.double.read a).quotient 54 (Ieee.double.read b)).map Ieee.double.write).getD (qn .f64)) := rfl
  rw [e, ha, hb]
  simp only [Ieee.Datum.quotient, if_neg hn, Option.map_some, Option.getD_some]
  refine small_encode (t := 0) (sa ^^ sb) ?_ (by omega)
  generalize hM : 54 + n.log2 - m.log2 = more
  have hK : (m <<< more) / n < 2 ^ (more + m.log2 + 1 - n.log2) := by
    rw [shl_eq]
    have h1 : m * 2 ^ more < 2 ^ (more + m.log2 + 1) := by
      have := Nat.mul_lt_mul_of_pos_right (lt_log2 m) (pow_pos' more)
      rw [← Nat.pow_add] at this
      rwa [show more + m.log2 + 1 = m.log2 + 1 + more by omega]
    have h2 : 2 ^ (more + m.log2 + 1) = 2 ^ (more + m.log2 + 1 - n.log2) * 2 ^ n.log2 := by rw [← Nat.pow_add]; congr 1; omega
    have h3 : 2 ^ n.log2 ≤ n := Nat.log2_self_le hn
    rw [Nat.div_lt_iff_lt_mul (by omega)]
    rw [h2] at h1
    exact Nat.lt_of_lt_of_le h1 (Nat.mul_le_mul_left _ h3)
  generalize (m <<< more) / n = q at hK
  have hmag : (2 * q + ((m <<< more) % n != 0).toNat).log2 < more + m.log2 + 1 - n.log2 + 1 := by
    refine log2_lt' ?_ (by omega)
    rw [Nat.pow_succ]
    have : ((m <<< more) % n != 0).toNat ≤ 1 := Bool.toNat_le _
    omega
  omega
theorem small_mul {a b : Nat} {t u : Nat} (ha : small t a) (hb : small u b) (htu : t + u + 1 ≤ 60) : small (t + u + 1 + 2) (fop .mul .f64 a b) := by
  obtain ⟨s, m, e, h1, h2⟩ := ha
  obtain ⟨s', m', e', h3, h4⟩ := hb
  have ex : fop .mul .f64 a b = ((((Ieee.double.read a).product (Ieee.double.read b)).map Ieee.double.write).getD (qn .f64)) := rfl
  have h1' : Ieee.double.read a = .number s m e := h1
  have h3' : Ieee.double.read b = .number s' m' e' := h3
  rw [ex, h1', h3']
  simp only [Ieee.Datum.product, Option.map_some, Option.getD_some]
  have hl : (m * m').log2 ≤ m.log2 + m'.log2 + 1 := by
    have h5 : m * m' < 2 ^ (m.log2 + m'.log2 + 2) := by
      rcases Nat.eq_zero_or_pos m' with h0 | h0
      · rw [h0, Nat.mul_zero]; exact pow_pos' _
      · have := Nat.mul_lt_mul'' (lt_log2 m) (lt_log2 m')
        rw [← Nat.pow_add] at this
        rwa [show m.log2 + m'.log2 + 2 = m.log2 + 1 + (m'.log2 + 1) by omega]
    have := log2_lt' h5 (by omega)
    omega
  have := small_encode (s ^^ s') (m := m * m') (e := e + e') (t := t + u + 1) (by push_cast; omega) htu
  show small _ (FloatKind.f64.encode _)
  simpa using this
theorem small_round {a : Nat} {t : Nat} (ha : small t a) (ht : t ≤ 50) : small (t + 2 + 2) (fround a) := by
  obtain ⟨s, m, e, h1, h2⟩ := ha
  unfold fround
  rw [h1]
  simp only [Ieee.Datum.integral]
  have hc : Ieee.Toward.even.cut s (m <<< e.toNat) (-e).toNat ≤ 2 ^ (t + 1) + 1 := by
    refine Nat.le_trans (cut_le _ _ _) ?_
    refine Nat.add_le_add_right ?_ 1
    rw [shl_eq]
    have hm := lt_log2 m
    rcases Int.le_total e 0 with h | h
    · rw [show e.toNat = 0 by omega, Nat.pow_zero, Nat.mul_one]
      by_cases hd : (-e).toNat ≤ m.log2 + 2
      · rw [Nat.min_eq_left hd]
        refine Nat.div_le_of_le_mul ?_
        rw [← Nat.pow_add]
        exact Nat.le_of_lt (Nat.lt_of_lt_of_le hm (Nat.pow_le_pow_right (by decide) (by omega)))
      · rw [Nat.min_eq_right (by omega), Nat.div_eq_of_lt (Nat.lt_of_lt_of_le hm (Nat.pow_le_pow_right (by decide) (by omega)))]
        exact Nat.zero_le _
    · rw [show (-e).toNat = 0 by omega, Nat.zero_min, Nat.pow_zero, Nat.div_one]
      have := Nat.mul_lt_mul_of_pos_right hm (pow_pos' e.toNat)
      rw [← Nat.pow_add] at this
      exact Nat.le_of_lt (Nat.lt_of_lt_of_le this (Nat.pow_le_pow_right (by decide) (by omega)))
  have hl : (Ieee.Toward.even.cut s (m <<< e.toNat) (-e).toNat).log2 ≤ t + 2 := by
    have h5 : Ieee.Toward.even.cut s (m <<< e.toNat) (-e).toNat < 2 ^ (t + 3) := by
      have h6 : 2 ^ (t + 3) = 2 ^ (t + 1) * 4 := by rw [show t + 3 = t + 1 + 2 by omega, Nat.pow_add]
      have := pow_pos' (t + 1)
      omega
    have := log2_lt' h5 (by omega)
    omega
  have := small_encode s (m := Ieee.Toward.even.cut s (m <<< e.toNat) (-e).toNat) (e := 0) (t := t + 2) (by omega) (by omega)
  simpa using this
theorem small_int {a : Nat} {t : Nat} (ha : small t a) (ht : t ≤ 60) : ∃ i, floatToIntVal .f64 a .i64 = some i := by
  obtain ⟨s, m, e, h1, h2⟩ := ha
  unfold floatToIntVal
  rw [h1]
  simp only [Ieee.Datum.toInt, Ieee.Datum.integral]
  have hcut : Ieee.Toward.zero.cut s (m <<< e.toNat) (-e).toNat ≤ 2 ^ 61 := by
    have hz : Ieee.Toward.zero.cut s (m <<< e.toNat) (-e).toNat ≤ (m <<< e.toNat) / 2 ^ (-e).toNat := by
      unfold Ieee.Toward.cut
      simp only [Bool.toNat_false, Nat.add_zero, Nat.shiftLeft_eq, Nat.one_mul]
      generalize m * 2 ^ e.toNat = n
      generalize (-e).toNat = d
      by_cases h : d ≤ n.log2 + 2
      · rw [Nat.min_eq_left h]; exact Nat.le_refl _
      · rw [Nat.min_eq_right (by omega)]
        have : n / 2 ^ (n.log2 + 2) = 0 := Nat.div_eq_of_lt (Nat.lt_of_lt_of_le Nat.lt_log2_self (Nat.pow_le_pow_right (by decide) (by omega)))
        rw [this]; exact Nat.zero_le _
    refine Nat.le_trans hz ?_
    rw [shl_eq]
    have hm := lt_log2 m
    rcases Int.le_total e 0 with h | h
    · rw [show e.toNat = 0 by omega, Nat.pow_zero, Nat.mul_one]
      refine Nat.div_le_of_le_mul ?_
      rw [← Nat.pow_add]
      exact Nat.le_of_lt (Nat.lt_of_lt_of_le hm (Nat.pow_le_pow_right (by decide) (by omega)))
    · rw [show (-e).toNat = 0 by omega, Nat.pow_zero, Nat.div_one]
      have := Nat.mul_lt_mul_of_pos_right hm (pow_pos' e.toNat)
      rw [← Nat.pow_add] at this
      exact Nat.le_of_lt (Nat.lt_of_lt_of_le this (Nat.pow_le_pow_right (by decide) (by omega)))
  have hmin : IntKind.i64.min = -9223372036854775808 := by decide
  have hmax : IntKind.i64.max = 9223372036854775807 := by decide
  have h61 : (2 : Nat) ^ 61 = 2305843009213693952 := by decide
  refine ⟨_, if_pos ?_⟩
  rw [hmin, hmax]
  unfold Ieee.signed
  rw [shl_eq, Nat.pow_zero, Nat.mul_one]
  split <;> omega
/-- A number by the scale. -/
def qf (s x : Nat) : Nat := fround (fop .mul .f64 4674736138332667904 (fop .quo .f64 (up x) (up s)))
theorem qf_int {s x : Nat} (hx : rng Ieee.single x < Ieee.single.infRung) (hs : rng Ieee.single s < Ieee.single.infRung) (hs0 : rng Ieee.single s ≠ 0) (hle : units Ieee.single (rng Ieee.single x) ≤ units Ieee.single (rng Ieee.single s)) : ∃ i, floatToIntVal .f64 (qf s x) .i64 = some i := by
  obtain ⟨_, g2, g3⟩ := up_number hx
  obtain ⟨_, k2, k3⟩ := up_number hs
  obtain ⟨m, i, r1, r2⟩ := read_number Ieee.double g2
  obtain ⟨n, j, r3, r4⟩ := read_number Ieee.double k2
  have hlp : Ieee.double.leastPlace = -1074 := by decide
  rw [hlp] at r1 r3
  have hn0 : n * 2 ^ j ≠ 0 := by
    rw [r4, k3]
    exact Nat.mul_ne_zero (units_pos _ hs0) (Nat.pos_iff_ne_zero.1 upK_pos)
  have hn : n ≠ 0 := fun h => hn0 (by rw [h, Nat.zero_mul])
  have hle' : m * 2 ^ i ≤ n * 2 ^ j := by
    rw [r2, r4, g3, k3]; exact Nat.mul_le_mul_right _ hle
  have hlog : i + m.log2 ≤ j + n.log2 := by
    rcases Nat.eq_zero_or_pos m with h0 | h0
    · subst h0
      have : i = 0 := by
        -- the word of zero
        have hu : units Ieee.double (rng Ieee.double (up x)) = 0 := by rw [← r2, Nat.zero_mul]
        have hr0 := (units_zero Ieee.double).1 hu
        have hsm : Ieee.double.read (up x) = .number (sgn Ieee.double (up x)) 0 (-1074) := by
          unfold rng at hr0
          unfold Ieee.Format.read
          simp only [hr0]
          rw [if_pos (by decide), hlp]; rfl
        rw [hsm] at r1
        injection r1 with _ _ h3
        omega
      have : Nat.log2 0 = 0 := by decide
      omega
    · have := log2_mono hle'
      rw [log2_mul_pow (by omega), log2_mul_pow hn] at this
      omega
  have q1 := small_quo r1 r3 hn hlog
  have c1 : small (14 : Nat) 4674736138332667904 := ⟨false, 9006924376834048, -38, by decide, by decide⟩
  have q2 := small_mul (t := 14) (u := 2) c1 q1 (by decide)
  have q3 := small_round (t := 19) (by simpa using q2) (by decide)
  exact small_int (t := 23) (by show small _ (fround _); simpa using q3) (by decide)
end Go.Proofs.Ytnommdpgmoljcaa


namespace Go.Proofs.Ytnommdpgmoljcaa
open Go.RowKit

/-- The address of a part. -/
def slA (a : Option Addr) (l mm z : Nat) : Option Addr := if mm = l then a else a.map (·.add (l * z))
theorem Cl.part {w : World} {a : Option Addr} {us : List Value} (h : Cl w a us) {l hh mm z : Nat} (h1 : hh ≤ mm) : Cl w (slA a l mm z) ((us.drop (l * z)).take ((hh - l) * z)) := by
  by_cases hm : mm = l
  · have : hh - l = 0 := by omega
    rw [this, Nat.zero_mul, List.take_zero]
    exact .inl rfl
  · unfold slA
    rw [if_neg hm]
    rcases h with h | ⟨p, rfl, hsp, h⟩
    · subst h; simp; exact .inl rfl
    · refine .inr ⟨p.add (l * z), rfl, ?_, fun i u hu => ?_⟩
      · rw [adr_add hsp]; rfl
      · rw [List.getElem?_take] at hu
        split at hu
        · rw [List.getElem?_drop] at hu
          obtain ⟨v, hv, he⟩ := h _ _ hu
          refine ⟨v, ?_, he⟩
          rw [adr_add hsp]
          simp only [adr]
          rw [show p.off + l * z + i = p.off + (l * z + i) by omega]
          exact hv
        · cases hu
theorem Sees.part {w0 : World} {O : List Ent} {a : Option Addr} {us : List Value} (h : Sees w0 O a us) {l hh mm z : Nat} (h1 : hh ≤ mm) : Sees w0 O (slA a l mm z) ((us.drop (l * z)).take ((hh - l) * z)) := fun w hw => (h w hw).part h1

section
variable {P : Program} {n : Nat} {w0 : World} {O : List Ent} {E : Env} {o : Oper}

/-- A bound of a part: none, or a number. -/
def OptI (E : Env) (x : Option Operand) (d v : Nat) : Prop := (x = none ∧ v = d) ∨ ∃ y k, x = some y ∧ E.opd y = some (.int k (v : Int))
theorem OptI.no {d : Nat} : OptI E none d d := .inl ⟨rfl, rfl⟩
theorem OptI.at {y : Operand} {k : IntKind} {i : Int} {d v : Nat} (h : E.opd y = some (.int k i)) (hi : i = (v : Int)) : OptI E (some y) d v := .inr ⟨y, k, rfl, by rw [h, hi]⟩

theorem run_bound {k : IntKind} {v y : Nat} (h : v ≤ y) (code : BoundsCode) (w : World) : (Instr.sliceBound (.int k (v : Int)) y code).run P w = .ok v w := by
  simp [Instr.sliceBound, asIntOf, h]

/-- A row of cells is written into a block that is known. -/
theorem Hp.write {A B : List Ent} {a : Option Addr} {us : List Value} {cap : Nat} {ty : TypeId} {w : World} (hw : Hp w0 (A ++ ⟨a, us, cap, ty⟩ :: B) w) (vs : List Value) (k : Nat) (hs : vs.all scal = true) (hk : k + vs.length ≤ us.length) (hne : vs ≠ []) :
    ∃ w', (storeCells (adr a k) vs).run P w = .ok () w' ∧ Hp w0 (A ++ ⟨a, setAt us k (vs.map cn), cap, ty⟩ :: B) w' := by
  have hent := hw.ents ⟨a, us, cap, ty⟩ (by simp)
  have hl : 0 < vs.length := List.length_pos_iff.2 hne
  have hcap : cap ≠ 0 := by
    rcases hent with h | ⟨_, _, _, _, _, _, h5, _⟩
    · have := h.1; simp only at this; subst this; simp only [List.length_nil] at hk; omega
    · simp only at h5; omega
  obtain ⟨b0, hb0, hge⟩ := hent.addr hcap
  obtain ⟨b, w', r1, r2, r3, r4⟩ := run_storeCells_ent (P := P) vs us 0 k w a cap ty hs (by omega) hent
  have hbb : b = b0 := by
    have := r2 hne
    simp only at hb0
    rw [this] at hb0
    simpa using hb0
  subst hbb
  refine ⟨w', r1, ?_⟩
  simp only [Nat.add_zero] at r4
  exact Hp.turn hw (fun _ => ⟨_, hb0, rfl⟩) hge (fun h => absurd h hcap) r3 r4 (fun _ p hp => .inl (by simp only at hp hb0; rw [hb0] at hp; cases hp; rfl))

/-! ### bits of unsigned numbers -/
theorem yr_bits {op : BinOp} {t ty : TypeId} {x y : Operand} {k : IntKind} {a b r : Int} (ho : o.op = .binOp op t x y ty) (hx : E.opd x = some (.int k a)) (hy : E.opd y = some (.int k b))
    (hr : (op = .and ∧ k.wrap (((a % 2 ^ k.bits).toNat &&& (b % 2 ^ k.bits).toNat : Nat) : Int) = r) ∨ (op = .or ∧ k.wrap (((a % 2 ^ k.bits).toNat ||| (b % 2 ^ k.bits).toNat : Nat) : Int) = r)) : YR P E o (.int k r) := yr_of fun ρ w hE => by
  have h1 := cn_int (hE.get (x := x) (by simp [ho, Op.operands]) hx)
  have h2 := cn_int (hE.get (x := y) (by simp [ho, Op.operands]) hy)
  refine ⟨.int k r, ?_, rfl⟩
  rcases hr with ⟨rfl, hr⟩ | ⟨rfl, hr⟩ <;> simp [execOp, ho, h1, h2, eqGuard, binOp, Op.intBits, hr]
theorem yr_shr {t ty : TypeId} {x y : Operand} {k k2 : IntKind} {a r : Int} {b : Nat} (ho : o.op = .binOp .shr t x y ty) (hx : E.opd x = some (.int k a)) (hy : E.opd y = some (.int k2 (b : Int)))
    (hr : a.fdiv (2 ^ (min b k.bits)) = r) : YR P E o (.int k r) := yr_of fun ρ w hE => by
  have h1 := cn_int (hE.get (x := x) (by simp [ho, Op.operands]) hx)
  have h2 := cn_int (hE.get (x := y) (by simp [ho, Op.operands]) hy)
  refine ⟨.int k r, ?_, rfl⟩
  have h3 : ¬ ((b : Int) < 0) := by omega
  simp [execOp, ho, h1, h2, eqGuard, binOp, Op.shift, h3, hr]
theorem yr_shl {t ty : TypeId} {x y : Operand} {k k2 : IntKind} {a r : Int} {b : Nat} (ho : o.op = .binOp .shl t x y ty) (hx : E.opd x = some (.int k a)) (hy : E.opd y = some (.int k2 (b : Int)))
    (hr : k.wrap (a * 2 ^ (min b k.bits)) = r) : YR P E o (.int k r) := yr_of fun ρ w hE => by
  have h1 := cn_int (hE.get (x := x) (by simp [ho, Op.operands]) hx)
  have h2 := cn_int (hE.get (x := y) (by simp [ho, Op.operands]) hy)
  refine ⟨.int k r, ?_, rfl⟩
  have h3 : ¬ ((b : Int) < 0) := by omega
  simp [execOp, ho, h1, h2, eqGuard, binOp, Op.shift, h3, hr]

/-! ### parts of a block of the call's own -/
theorem Sees.take {a : Option Addr} {us : List Value} (q : Nat) (h : Sees w0 O a us) : Sees w0 O a (us.take q) := fun w hw => (h w hw).sub _ (fun i u hu => by
  rw [List.getElem?_take] at hu
  split at hu
  · exact hu
  · cases hu)
theorem Sees.drop {b : Nat} {us : List Value} (q : Nat) (h : Sees w0 O (some ⟨b, 0, none⟩) us) : Sees w0 O (some (adr (some ⟨b, 0, none⟩) q)) (us.drop q) := fun w hw => by
  rcases h w hw with h | ⟨p, hp, hsp, h⟩
  · subst h; simp; exact .inl rfl
  · cases hp
    refine .inr ⟨_, rfl, rfl, fun i u hu => ?_⟩
    rw [List.getElem?_drop] at hu
    obtain ⟨v, hv, he⟩ := h _ _ hu
    refine ⟨v, ?_, he⟩
    simp only [adr, Nat.zero_add] at hv ⊢
    exact hv
/-- A block that is known lies at the head of a block. -/
theorem VX.addr {a : Option Addr} {us : List Value} {cap : Nat} {ty : TypeId} {R : Act → World → Prop} (hm : (⟨a, us, cap, ty⟩ : Ent) ∈ O) (hc : us ≠ []) (h : ∀ b, a = some ⟨b, 0, none⟩ → us.length ≤ cap → VX n w0 O E R) : VX n w0 O E R := by
  intro act w ha hw
  rcases hw.ents _ hm with h1 | ⟨b, c, h1, _, _, _, h5, _⟩
  · exact absurd h1.1 hc
  · exact h b h1 h5 act w ha hw
end
end Go.Proofs.Ytnommdpgmoljcaa


namespace Go.Proofs.Ytnommdpgmoljcaa
open Go.RowKit

/-- bytes in memory; a text of bytes -/
def bl (bs : List Int) : List Value := bs.map (Value.int .u8)
def stb (bs : List Int) : ByteArray := ⟨(bs.map fun n => UInt8.ofNat n.toNat).toArray⟩
theorem bl_length (bs : List Int) : (bl bs).length = bs.length := by simp [bl]
theorem bl_scal (bs : List Int) : (bl bs).all scal = true := by
  rw [List.all_eq_true]
  intro v hv
  obtain ⟨b, _, rfl⟩ := List.mem_map.1 hv
  rfl
theorem stb_size (bs : List Int) : (stb bs).size = bs.length := by simp [stb, ByteArray.size]

theorem pushes (bs : List Int) : ∀ s : ByteArray, bs.foldl (fun r n => r.push (UInt8.ofNat n.toNat)) s = ⟨s.data ++ (bs.map fun n => UInt8.ofNat n.toNat).toArray⟩ := by
  induction bs with
  | nil => intro s; simp
  | cons b bs ih =>
    intro s
    rw [List.foldl_cons, ih]
    simp [ByteArray.push]

/-- two texts compared -/
def scmp (op : BinOp) (a b : ByteArray) : Bool := match op with | .eql => a.toList == b.toList | _ => !(a.toList == b.toList)
@[simp] theorem scmp_ne_self (a : ByteArray) : scmp .neq a a = false := by simp [scmp]
@[simp] theorem scmp_eq_self (a : ByteArray) : scmp .eql a a = true := by simp [scmp]
section
variable {P : Program} {w0 : World} {O : List Ent} {E : Env} {o : Oper}
theorem yr_scmp {op : BinOp} {t ty : TypeId} {x y : Operand} {a b : ByteArray} (ho : o.op = .binOp op t x y ty) (hx : E.opd x = some (.string a)) (hy : E.opd y = some (.string b)) (hop : op = .eql ∨ op = .neq) : YR P E o (.bool (scmp op a b)) := yr_of fun ρ w hE => by
  have h1 := cn_string (hE.get (x := x) (by simp [ho, Op.operands]) hx)
  have h2 := cn_string (hE.get (x := y) (by simp [ho, Op.operands]) hy)
  refine ⟨.bool (scmp op a b), ?_, rfl⟩
  rcases hop with rfl | rfl <;> simp [execOp, ho, h1, h2, eqGuard, binOp, Op.stringOp, scmp]
/-- string(bytes) -/
theorem yq_bts {src dst e : TypeId} {x : Operand} {a : Option Addr} {m c : Nat} {bs : List Int} (ho : o.op = .convert src dst x) (hs : P.underlying src = some (.slice e)) (he : P.underlying e = some (.int .u8)) (hd : P.underlying dst = some .string)
    (hx : E.opd x = some (.slice a m c)) (hsee : Sees w0 O a (bl bs)) (hm : m = bs.length) : YQ P w0 O E o (.string (stb bs)) := by
  subst hm
  intro ρ w hE hw
  have e1 := cn_slice (hE.get (x := x) (by simp [ho, Op.operands]) hx)
  have key : (Conv.bytesToString (.slice a bs.length c)).run P w = .ok (.string (stb bs)) w := by
    cases bs with
    | nil =>
      cases a with
      | none => simp [Conv.bytesToString, stb]; rfl
      | some p =>
        have h0 : (Conv.bytesToString (.slice (some p) 0 c)).run P w = _ := run_bytesToString w p 0 c [] (by simp [loadCells, loadCellsFrom])
        exact h0
    | cons b bs =>
      rcases hsee w hw with h | ⟨p, rfl, hsp, h⟩
      · cases h
      · have hcl : Cl w (some p) (bl (b :: bs)) := .inr ⟨p, rfl, hsp, h⟩
        obtain ⟨vs, h1, h2, h3⟩ := hcl.cellsN (bl (b :: bs)) 0 (fun j u hj => by simpa using hj)
        have hvs : vs = (bl (b :: bs)) := by
          apply List.ext_getElem?
          intro j
          have h4 := congrArg (fun l => l[j]?) h3
          simp only [List.getElem?_map] at h4
          cases hv : vs[j]? with
          | none => rw [hv] at h4; simpa using h4
          | some v =>
            rw [hv] at h4
            simp only [Option.map_some, bl, List.getElem?_map] at h4 ⊢
            cases hb : (b :: bs)[j]? with
            | none => rw [hb] at h4; cases h4
            | some y =>
              rw [hb] at h4
              simp only [Option.map_some, Option.some.injEq] at h4 ⊢
              exact cn_int h4
        have hload := run_loadCells_adr (P := P) (w := w) (a := some p) (k := 0) vs h2
        have hp : adr (some p) 0 = p := by
          obtain ⟨pb, po, ps⟩ := p
          simp only at hsp
          subst hsp
          simp [adr]
        rw [hp, h1, bl_length] at hload
        have hl' : (loadCells p (b :: bs).length).run P w = .ok ((b :: bs).map (Value.int .u8)).toArray w := by
          rw [hload, hvs]; rfl
        rw [run_bytesToString w p _ c _ hl', pushes]
        simp [stb]
  have hr : (execOp ρ o).run P w = .ok (.value (.string (stb bs))) w := by
    simp [execOp, ho, e1, run_convert_bytes_string w src dst e a _ c hs he hd, key]
  rw [hr]
  exact ⟨by simp [cn, cn1, cn0], Below.refl _ _⟩

theorem Frz.freeze {w : World} {b : Nat} {c : Array Value} {ty : TypeId} (h : Frz w b c ty) : Frz (w.freeze ⟨b, c.size, none⟩ 1) b c ty := by
  obtain ⟨z, h, hz⟩ := h
  refine ⟨(c.size, c.size + 1), ?_, .inr rfl⟩
  unfold World.freeze
  rw [if_neg (by decide)]
  simp only [Array.getElem?_modify, h]
  rcases hz with rfl | rfl
  · simp
  · simp
theorem freeze_other {w : World} {b n k : Nat} (hk : k ≠ b) : (w.freeze ⟨b, n, none⟩ 1).heap[k]? = w.heap[k]? := by
  unfold World.freeze
  rw [if_neg (by decide)]
  simp only [Array.getElem?_modify]
  rw [if_neg (fun h => hk h.symm)]
theorem Hp.freeze {w : World} {b : Nat} {c : Array Value} {ty : TypeId} (hw : Hp w0 O w) (hb : w0.heap.size ≤ b) (h : Frz w b c ty) : Hp w0 O (w.freeze ⟨b, c.size, none⟩ 1) := by
  have ht : Turns w b (w.freeze ⟨b, c.size, none⟩ 1) := by
    refine ⟨?_, ?_, ?_, ?_, fun k _ hk => freeze_other hk⟩ <;> (unfold World.freeze; rw [if_neg (by decide)])
    simp
  refine ⟨Below.of_turns hw.below ht hb, fun e he => ?_, hw.apart⟩
  rcases hw.ents e he with h1 | ⟨b', c', h1, h2, h3, h4⟩
  · exact .inl h1
  · refine .inr ⟨b', c', h1, h2, ?_, h4⟩
    by_cases hbb : b' = b
    · subst hbb
      have hcc : c' = c ∧ e.ty = ty := by
        obtain ⟨z, g1, _⟩ := h
        obtain ⟨z', g2, _⟩ := h3
        rw [g1] at g2
        injection g2 with g2
        injection g2 with g2 g3
        exact ⟨g2.symm, g3.symm⟩
      rw [hcc.1, hcc.2]
      exact h.freeze
    · exact h3.same (freeze_other hbb)
/-- []byte("..."): the row's conversion to its own type -/
theorem yc_own8 {t e : TypeId} {x : Operand} {b m c cap : Nat} {us : List Value} {ty : TypeId} (ho : o.op = .convert t t x) (ht : P.underlying t = some (.slice e)) (he : P.underlying e = some (.int .u8))
    (hx : E.opd x = some (.slice (some ⟨b, 0, none⟩) m c)) (hO : (⟨some ⟨b, 0, none⟩, us, cap, ty⟩ : Ent) ∈ O) (hc : cap ≠ 0) : YC P w0 O E o (fun _ : Unit => .slice (some ⟨b, 0, none⟩) m c) (fun _ => O) := by
  intro ρ w F hE hw
  have e1 := cn_slice (hE.get (x := x) (by simp [ho, Op.operands]) hx)
  rcases hw.ents _ (List.mem_append_right F hO) with h | ⟨b', c', h1, h2, h3, h4⟩
  · exact absurd h.2 hc
  · simp only [Option.some.injEq, Addr.mk.injEq, and_true] at h1
    subst h1
    have hsh : w.shape? b = some (ty, c'.size) := by
      obtain ⟨z, g, _⟩ := h3
      simp [World.shape?, g]
    have hr : (execOp ρ o).run P w = .ok (.value (.slice (some ⟨b, 0, none⟩) m c)) (w.freeze ⟨b, c'.size, none⟩ 1) := by
      simp [execOp, ho, e1, convert, run_underlying ht, run_underlying he, markStringish, hsh]
    rw [hr]
    exact ⟨(), by simp [cn, cn1, cn0], hw.freeze h2 h3⟩
end
end Go.Proofs.Ytnommdpgmoljcaa


namespace Go.Proofs.Ytnommdpgmoljcaa
open Go.RowKit

def szOk (wi hi de : Int) : Bool := decide (1 ≤ wi ∧ wi ≤ 216) && decide (1 ≤ hi ∧ hi ≤ 216) && decide (1 ≤ de ∧ de ≤ 216) && decide (wi * hi * de ≤ 216)
def meshOk (f : V3) (st : Nat) (wi hi de : Int) (n : Nat) : Bool := fin3 f && above st && szOk wi hi de && decide ((n : Int) = wi * hi * de)
section
variable {wi hi de : Int} {f : V3} {st n : Nat}
theorem mesh_mul (h1 : decide (1 ≤ wi ∧ wi ≤ 216) = true) (h2 : decide (1 ≤ hi ∧ hi ≤ 216) = true) (h3 : decide (1 ≤ de ∧ de ≤ 216) = true) : (1 ≤ wi * hi ∧ wi * hi ≤ 46656) ∧ 1 ≤ wi * hi * de ∧ wi * hi * de ≤ 10077696 := by
  rw [decide_eq_true_eq] at h1 h2 h3
  obtain ⟨W, rfl⟩ : ∃ W : Nat, wi = W := ⟨wi.toNat, by omega⟩
  obtain ⟨H, rfl⟩ : ∃ H : Nat, hi = H := ⟨hi.toNat, by omega⟩
  obtain ⟨D, rfl⟩ : ∃ D : Nat, de = D := ⟨de.toNat, by omega⟩
  have a1 : 1 * 1 ≤ W * H := Nat.mul_le_mul (by omega) (by omega)
  have a2 : W * H ≤ 216 * 216 := Nat.mul_le_mul (by omega) (by omega)
  have a3 : 1 * 1 ≤ W * H * D := Nat.mul_le_mul (by omega) (by omega)
  have a4 : W * H * D ≤ 46656 * 216 := Nat.mul_le_mul (by omega) (by omega)
  have e1 : (W : Int) * H = ((W * H : Nat) : Int) := (Int.natCast_mul W H).symm
  have e2 : (W : Int) * H * D = ((W * H * D : Nat) : Int) := by rw [Int.natCast_mul, Int.natCast_mul]
  rw [e2, e1]
  generalize W * H * D = p at *
  generalize W * H = q at *
  omega
theorem szOk_is (h : szOk wi hi de = true) : ∃ W H D : Nat, wi = W ∧ hi = H ∧ de = D ∧ 1 ≤ W ∧ 1 ≤ H ∧ 1 ≤ D ∧ W ≤ 216 ∧ H ≤ 216 ∧ D ≤ 216 ∧ W * H * D ≤ 216 := by
  unfold szOk at h
  simp only [Bool.and_eq_true, decide_eq_true_eq] at h
  obtain ⟨⟨⟨h1, h2⟩, h3⟩, h4⟩ := h
  obtain ⟨W, rfl⟩ : ∃ W : Nat, wi = W := ⟨wi.toNat, by omega⟩
  obtain ⟨H, rfl⟩ : ∃ H : Nat, hi = H := ⟨hi.toNat, by omega⟩
  obtain ⟨D, rfl⟩ : ∃ D : Nat, de = D := ⟨de.toNat, by omega⟩
  exact ⟨W, H, D, rfl, rfl, rfl, by omega, by omega, by omega, by omega, by omega, by omega, by
    rw [show (W : Int) * H * D = ((W * H * D : Nat) : Int) by rw [Int.natCast_mul, Int.natCast_mul]] at h4
    generalize W * H * D = p at *
    omega⟩
theorem szOk_no1 (h : decide (1 ≤ wi ∧ wi ≤ 216) = false) : false = szOk wi hi de := by unfold szOk; rw [h]; rfl
theorem szOk_no2 (h : decide (1 ≤ hi ∧ hi ≤ 216) = false) : false = szOk wi hi de := by unfold szOk; rw [h, Bool.and_false]; rfl
theorem szOk_no3 (h : decide (1 ≤ de ∧ de ≤ 216) = false) : false = szOk wi hi de := by unfold szOk; rw [h, Bool.and_false]; rfl
theorem szOk_last (h1 : decide (1 ≤ wi ∧ wi ≤ 216) = true) (h2 : decide (1 ≤ hi ∧ hi ≤ 216) = true) (h3 : decide (1 ≤ de ∧ de ≤ 216) = true) : icmp .leq (wi * hi * de) 216 = szOk wi hi de := by unfold szOk; rw [h1, h2, h3]; rfl
theorem szOk_yes (h1 : decide (1 ≤ wi ∧ wi ≤ 216) = true) (h2 : decide (1 ≤ hi ∧ hi ≤ 216) = true) (h3 : decide (1 ≤ de ∧ de ≤ 216) = true) (h4 : wi * hi * de ≤ 216) : szOk wi hi de = true := by rw [← szOk_last h1 h2 h3]; exact decide_eq_true h4
theorem szOk_no4 (h4 : 216 < wi * hi * de) : szOk wi hi de = false := by unfold szOk; rw [show decide (wi * hi * de ≤ 216) = false from decide_eq_false (by omega), Bool.and_false]
theorem meshOk_no1 (h : fin3 f = false) : false = meshOk f st wi hi de n := by unfold meshOk; rw [h]; rfl
theorem meshOk_no2 (h : above st = false) : false = meshOk f st wi hi de n := by unfold meshOk; rw [h, Bool.and_false]; rfl
theorem meshOk_no3 (h : szOk wi hi de = false) : false = meshOk f st wi hi de n := by unfold meshOk; rw [h, Bool.and_false]; rfl
theorem meshOk_last (h1 : fin3 f = true) (h2 : above st = true) (h3 : szOk wi hi de = true) : icmp .eql (n : Int) (wi * hi * de) = meshOk f st wi hi de n := by
  unfold meshOk; rw [h1, h2, h3]
  show ((n : Int) == wi * hi * de) = (true && decide ((n : Int) = wi * hi * de))
  rw [Bool.true_and, Bool.eq_iff_iff, beq_iff_eq, decide_eq_true_eq]
theorem meshOk_is (h : meshOk f st wi hi de n = true) : fin3 f = true ∧ above st = true ∧ szOk wi hi de = true ∧ (n : Int) = wi * hi * de := by
  unfold meshOk at h
  simp only [Bool.and_eq_true, decide_eq_true_eq] at h
  exact ⟨h.1.1.1, h.1.1.2, h.1.2, h.2⟩
/-- A mesh that is valid, its sizes as natural numbers. -/
theorem mesh_open (h : meshOk f st wi hi de n = true) : ∃ W H D : Nat, wi = W ∧ hi = H ∧ de = D ∧ (1 ≤ W ∧ 1 ≤ H ∧ 1 ≤ D) ∧ (W ≤ 216 ∧ H ≤ 216 ∧ D ≤ 216) ∧ W * H * D ≤ 216 ∧ n = W * H * D := by
  obtain ⟨_, _, h3, h4⟩ := meshOk_is h
  obtain ⟨W, H, D, rfl, rfl, rfl, a1, a2, a3, a4, a5, a6, a7⟩ := szOk_is h3
  exact ⟨W, H, D, rfl, rfl, rfl, ⟨a1, a2, a3⟩, ⟨a4, a5, a6⟩, a7, by
    rw [show (W : Int) * H * D = ((W * H * D : Nat) : Int) by rw [Int.natCast_mul, Int.natCast_mul]] at h4
    exact Int.ofNat.inj h4⟩
end

/-! ### nodes in order -/
section
variable {W H D x y z j : Nat}
end

section
variable {P : Program} {n : Nat} {w0 : World} {O : List Ent} {E : Env} {o : Oper}
theorem yr_addN {t ty : TypeId} {x y : Operand} {a b : Int} (r : Nat) (ho : o.op = .binOp .add t x y ty) (hx : E.opd x = some (.int .i64 a)) (hy : E.opd y = some (.int .i64 b)) (h : a + b = (r : Int)) (hb : r ≤ 9223372036854775807) : YR P E o (.int .i64 (r : Int)) := by
  rw [← h]
  exact yr_int ho hx hy (.inl ⟨rfl, wrap_in (by omega)⟩)
theorem yr_func2 {f : Fn} {c1 c2 : Operand} {p1 p2 : Option Addr} (ho : o.op = .makeFunc f #[] #[c1, c2]) (h1 : E.opd c1 = some (.pointer p1)) (h2 : E.opd c2 = some (.pointer p2)) : YR P E o (.func f #[] #[.pointer p1, .pointer p2]) :=
  yr_func ho (fun ρ hE => by simp [cn_pointer (hE.get (x := c1) (by simp [ho, Op.operands]) h1), cn_pointer (hE.get (x := c2) (by simp [ho, Op.operands]) h2)]) (fun _ => rfl)
theorem Pick.e4 {O1 O2 O3 F : List Ent} {e1 e2 e3 e4 : Ent} (h1 : Rem O [e1] O1) (h2 : Rem O1 [e2] O2) (h3 : Rem O2 [e3] O3) (h4 : Rem O3 [e4] F) : Pick O [e1, e2, e3, e4] F := Pick.take h1 (Pick.take h2 (Pick.take h3 (Pick.take h4 .nil)))
end

/-! ### places, values -/
section
variable {vs : List V3} {W H D tw x y z j k a b : Nat}
end
section
variable {f : V3} {st : Nat} {wi hi de : Int} {vs : List V3}
end
end Go.Proofs.Ytnommdpgmoljcaa


namespace Go.Proofs.Ytnommdpgmoljcaa
open Go.RowKit

theorem fin_rng {x : Nat} (h : fin x = true) : rng Ieee.single x < Ieee.single.infRung := by
  rcases Nat.lt_or_ge (rng Ieee.single x) Ieee.single.infRung with hl | hl
  · exact hl
  · exfalso
    have hq : fop .sub .f32 x x = qn .f32 := by
      cases hn : fnan .f32 x
      · have hi : Ieee.single.read x = .infinity (sgn Ieee.single x) := read_inf .f32 (Nat.le_antisymm (rng_le hn) hl)
        unfold fop floatBits Ieee.Format.sub
        simp only [show FloatKind.f32.format = Ieee.single from rfl, hi]
        generalize sgn Ieee.single x = s
        cases s <;> decide
      · simp [fop, floatBits_nan_left hn]
    unfold fin at h
    rw [hq] at h
    revert h
    decide
theorem fin_nan {x : Nat} (h : fin x = true) : fnan .f32 x = false := by
  rw [fnan_rng]
  have := fin_rng h
  exact decide_eq_false (by show ¬ Ieee.single.infRung < rng Ieee.single x; omega)
/-- What is not below zero, a number. -/
def pos (s : Nat) : Prop := rng Ieee.single s < Ieee.single.infRung ∧ sgn Ieee.single s = false
theorem pos_0 : pos 0 := by constructor <;> decide
theorem fabs_fin {x : Nat} (h : fin x = true) : fabs .f32 x = x % Ieee.single.signWeight := by unfold fabs; rw [fin_nan h]; rfl
theorem pos_fabs {x : Nat} (h : fin x = true) : pos (fabs .f32 x) := by
  rw [fabs_fin h]
  exact ⟨by rw [rng_abs]; exact fin_rng h, sgn_abs _ _⟩
theorem rng_fabs {x : Nat} (h : fin x = true) : rng Ieee.single (fabs .f32 x) = rng Ieee.single x := by rw [fabs_fin h, rng_abs]
/-- The greater of what it was and the number without its sign. -/
def scN (s x : Nat) : Nat := if fcmp .gtr .f32 (fabs .f32 x) s then fabs .f32 x else s
theorem pos_scN {s x : Nat} (hs : pos s) (h : fin x = true) : pos (scN s x) := by unfold scN; split; exact pos_fabs h; exact hs
theorem sval_pos {s : Nat} (h : pos s) : sval Ieee.single s = (units Ieee.single (rng Ieee.single s) : Int) := by unfold sval; rw [h.2]; rfl
theorem gtr_pos {a b : Nat} (ha : rng Ieee.single a < Ieee.single.infRung) (hb : rng Ieee.single b < Ieee.single.infRung) : fcmp .gtr .f32 a b = decide (sval Ieee.single b < sval Ieee.single a) := by
  unfold fcmp
  simp only
  rw [order_number (k := .f32) ha hb, Option.some_beq_some]
  show (compare (sval Ieee.single a) (sval Ieee.single b) == .gt) = _
  by_cases h : sval Ieee.single b < sval Ieee.single a
  · rw [decide_eq_true h, beq_iff_eq]; exact Int.compare_eq_gt.2 h
  · rw [decide_eq_false h, beq_eq_false_iff_ne]; exact fun g => h (Int.compare_eq_gt.1 g)
theorem le_scN {s x : Nat} (hs : pos s) (h : fin x = true) : units Ieee.single (rng Ieee.single s) ≤ units Ieee.single (rng Ieee.single (scN s x)) ∧ units Ieee.single (rng Ieee.single x) ≤ units Ieee.single (rng Ieee.single (scN s x)) := by
  have hp := pos_fabs h
  have hg := gtr_pos hp.1 hs.1
  rw [sval_pos hp, sval_pos hs, rng_fabs h] at hg
  unfold scN
  by_cases hlt : (units Ieee.single (rng Ieee.single s) : Int) < units Ieee.single (rng Ieee.single x)
  · rw [hg, decide_eq_true hlt, if_pos rfl, rng_fabs h]; omega
  · rw [hg, decide_eq_false hlt, if_neg (by decide)]; omega
theorem zero0 : sval Ieee.single 0 = 0 ∧ rng Ieee.single 0 < Ieee.single.infRung := by decide
section
variable {P : Program} {E : Env} {o : Oper}
/-- the absolute value, narrowed -/
theorem yr_absdn {src dst : TypeId} {x : Operand} {b : Nat} (ho : o.op = .convert src dst x) (hs : P.underlying src = some (.float .f64)) (hd : P.underlying dst = some (.float .f32)) (hx : E.opd x = some (.float .f64 (fabs .f64 (fconv .f32 .f64 b)))) : YR P E o (.float .f32 (fabs .f32 b)) := by
  have h := yr_fconv (P := P) ho hs hd (by decide) hx (abs_down b).2
  rwa [(abs_down b).1] at h
/-- max of two numbers that are not below zero -/
theorem yr_maxS {x y : Operand} {t s : TypeId} {a b : Nat} (ho : o.op = .call ⟨.builtin .max, #[x, y], #[t, s]⟩) (hx : E.opd x = some (.float .f32 a)) (hy : E.opd y = some (.float .f32 (fabs .f32 b))) (ha : pos a) (hb : fin b = true) : YR P E o (.float .f32 (scN a b)) := yr_of fun ρ w hE => by
  obtain ⟨a', g1, g2⟩ := cn_float (hE.get (x := x) (by simp [ho, Op.operands, Call.operands]) hx)
  obtain ⟨b', k1, k2⟩ := cn_float (hE.get (x := y) (by simp [ho, Op.operands, Call.operands]) hy)
  have hp := pos_fabs hb
  have na : ∀ z, rng Ieee.single z < Ieee.single.infRung → fnan .f32 z = false := fun z hz => by
    rw [fnan_rng]; exact decide_eq_false (by show ¬ Ieee.single.infRung < rng Ieee.single z; omega)
  have ea : a' = a := by
    have : fnan .f32 a' = false := by rw [← fnan_cb, g2]; exact na _ ha.1
    rw [← g2, cb_num this]
  have eb : b' = fabs .f32 b := by
    have : fnan .f32 b' = false := by rw [← fnan_cb, k2]; exact na _ hp.1
    rw [← k2, cb_num this]
  subst ea
  subst eb
  have hg := gtr_pos hp.1 ha.1
  have hord : FloatKind.f32.format.order a' (fabs .f32 b) = some (compare (sval Ieee.single a') (sval Ieee.single (fabs .f32 b))) := order_number (k := .f32) ha.1 hp.1
  have hneg : (FloatKind.f32.decode a').neg = false := by
    obtain ⟨m, e, h1, _⟩ := read_number Ieee.single ha.1
    unfold FloatKind.decode
    rw [show FloatKind.f32.format.read a' = _ from h1]
    exact ha.2
  have hmax : (Builtin.max2 (.float .f32 a') (.float .f32 (fabs .f32 b))).run P w = .ok (.float .f32 (scN a' b)) w := by
    unfold Builtin.max2 scN
    rw [hg]
    simp only [hord]
    rcases Int.lt_trichotomy (sval Ieee.single a') (sval Ieee.single (fabs .f32 b)) with h | h | h
    · rw [Int.compare_eq_lt.2 h, decide_eq_true h]; rfl
    · rw [compare_eq.2 h, decide_eq_false (by omega)]
      simp [hneg]
    · rw [Int.compare_eq_gt.2 h, decide_eq_false (by omega)]; rfl
  refine ⟨.float .f32 (scN a' b), ?_, ?_⟩
  · simp [execOp, ho, g1, k1, resolve, invoke, builtin, Builtin.max_, hmax]
  · simp only [cn, cn1, cn0]
    rw [cb_num (na _ (pos_scN ha hb).1)]
end
end Go.Proofs.Ytnommdpgmoljcaa


namespace Go.Proofs.Ytnommdpgmoljcaa
open Go.RowKit

/-! ### bytes -/
def w8 (i : Int) : Int := IntKind.u8.wrap i
theorem w8_mod (i : Int) : w8 i = i % 256 := by
  unfold w8 IntKind.wrap
  simp [IntKind.signed, IntKind.bits]
theorem shr8 (x k : Nat) (b : Nat) (hb : b ≤ 64) (hk : k = x / 2 ^ b) : ((x : Nat) : Int).fdiv (2 ^ (min b IntKind.i64.bits)) = (k : Int) := by
  subst hk
  rw [show IntKind.i64.bits = 64 from rfl, Nat.min_eq_left hb, Int.fdiv_eq_ediv_of_nonneg _ (by exact_mod_cast Nat.zero_le _)]
  norm_cast
def four (x : Nat) : List Int := [w8 (x : Int), w8 ((x / 256 : Nat) : Int), w8 ((x / 65536 : Nat) : Int), w8 ((x / 16777216 : Nat) : Int)]
def fourK (x k : Nat) : List Int := (List.range k).map fun i => w8 ((x / 256 ^ i : Nat) : Int)
theorem fourK_length (x k : Nat) : (fourK x k).length = k := by simp [fourK]
theorem fourK_succ (x k : Nat) : fourK x k ++ [w8 ((x / 256 ^ k : Nat) : Int)] = fourK x (k + 1) := by unfold fourK; rw [List.range_succ]; simp
theorem fourK_all (x : Nat) : fourK x 4 = four x := by
  unfold fourK four
  simp [List.range_succ]
theorem four_next (x k : Nat) : x / 256 ^ (k + 1) = x / 256 ^ k / 2 ^ 8 := by rw [Nat.pow_succ, Nat.div_div_eq_div_mul]
theorem bl_snoc (bs : List Int) (x k : Nat) : bl (bs ++ fourK x k) ++ [.int .u8 (w8 ((x / 256 ^ k : Nat) : Int))] = bl (bs ++ fourK x (k + 1)) := by
  rw [← fourK_succ, ← List.append_assoc]; simp [bl]

/-! ### the text of a mesh -/
def num (vs : List V3) (k : Nat) : Nat := if k % 3 = 0 then (vs.getD (k / 3) z3).1 else if k % 3 = 1 then (vs.getD (k / 3) z3).2.1 else (vs.getD (k / 3) z3).2.2
def scU (vs : List V3) : Nat → Nat
  | 0 => 0
  | k + 1 => scN (scU vs k) (num vs k)
def allF (vs : List V3) : Nat → Bool
  | 0 => true
  | k + 1 => allF vs k && fin (num vs k)
def qI (s x : Nat) : Int := (floatToIntVal .f64 (qf s x) .i64).getD 0
def qz (s x : Nat) : Int := if fcmp .gtr .f32 s 0 then qI s x else 0
def bodyU (vs : List V3) (s : Nat) : Nat → List Int
  | 0 => []
  | k + 1 => bodyU vs s k ++ [w8 (qz s (num vs k)), w8 ((qz s (num vs k)).fdiv 256)]
def topL (f : V3) (st : Nat) (wi hi de : Int) (s : Nat) : List Int := [77, 83, 72, 49] ++ [w8 wi, w8 hi, w8 de] ++ four f.1 ++ four f.2.1 ++ four f.2.2 ++ four st ++ four s
def pkL (f : V3) (st : Nat) (wi hi de : Int) (vs : List V3) : List Int := topL f st wi hi de (scU vs (vs.length * 3)) ++ bodyU vs (scU vs (vs.length * 3)) (vs.length * 3)
section
variable {vs : List V3} {k j s : Nat}
theorem num_0 (i : Nat) : num vs (i * 3) = (vs.getD i z3).1 := by unfold num; rw [if_pos (by omega), show i * 3 / 3 = i by omega]
theorem num_1 (i : Nat) : num vs (i * 3 + 1) = (vs.getD i z3).2.1 := by unfold num; rw [if_neg (by omega), if_pos (by omega), show (i * 3 + 1) / 3 = i by omega]
theorem num_2 (i : Nat) : num vs (i * 3 + 2) = (vs.getD i z3).2.2 := by unfold num; rw [if_neg (by omega), if_neg (by omega), show (i * 3 + 2) / 3 = i by omega]
def part3 (v : V3) (j : Nat) : Nat := if j = 0 then v.1 else if j = 1 then v.2.1 else v.2.2
theorem num_part {i j : Nat} (hj : j < 3) : num vs (i * 3 + j) = part3 (vs.getD i z3) j := by
  unfold num part3
  rw [show (i * 3 + j) / 3 = i by omega, show (i * 3 + j) % 3 = j by omega]
theorem nums_get {v : V3} {j : Nat} (hj : j < 3) : [v.1, v.2.1, v.2.2].getD j 0 = part3 v j := by
  have : j = 0 ∨ j = 1 ∨ j = 2 := by omega
  rcases this with rfl | rfl | rfl <;> rfl
theorem allF_pos : allF vs k = true → pos (scU vs k) := by
  induction k with
  | zero => intro _; exact pos_0
  | succ k ih => intro h; rw [allF, Bool.and_eq_true] at h; exact pos_scN (ih h.1) h.2
theorem allF_le : allF vs k = true → ∀ j, j < k → fin (num vs j) = true ∧ units Ieee.single (rng Ieee.single (num vs j)) ≤ units Ieee.single (rng Ieee.single (scU vs k)) := by
  induction k with
  | zero => intro _ j hj; omega
  | succ k ih =>
    intro h j hj
    rw [allF, Bool.and_eq_true] at h
    obtain ⟨l1, l2⟩ := le_scN (allF_pos h.1) h.2
    rcases Nat.lt_or_eq_of_le (Nat.le_of_lt_succ hj) with hj | rfl
    · obtain ⟨g1, g2⟩ := ih h.1 j hj
      exact ⟨g1, Nat.le_trans g2 l1⟩
    · exact ⟨h.2, l2⟩
theorem allF_no : allF vs k = true → fin (num vs k) = false → k < j → allF vs j = false := by
  intro h1 h2 hj
  induction j with
  | zero => omega
  | succ j ih =>
    rw [allF]
    rcases Nat.lt_or_eq_of_le (Nat.le_of_lt_succ hj) with hj | rfl
    · rw [ih hj]; rfl
    · rw [h2, Bool.and_false]
theorem pos_gtr (h : pos s) : fcmp .gtr .f32 s 0 = decide (rng Ieee.single s ≠ 0) := by
  rw [gtr_pos h.1 zero0.2, zero0.1, sval_pos h]
  have := units_zero Ieee.single (r := rng Ieee.single s)
  by_cases h0 : rng Ieee.single s = 0
  · rw [decide_eq_false (by rw [this.2 h0]; decide), decide_eq_false (by simpa using h0)]
  · rw [decide_eq_true h0, decide_eq_true (by
      have h1 : units Ieee.single (rng Ieee.single s) ≠ 0 := fun h => h0 (this.1 h)
      omega)]
theorem pos_neq (h : pos s) : fcmp .neq .f32 s 0 = fcmp .gtr .f32 s 0 := by
  rw [gtr_pos h.1 zero0.2, zero0.1, sval_pos h]
  unfold fcmp
  simp only
  rw [order_number (k := .f32) h.1 zero0.2]
  have e : sval FloatKind.f32.format s = (units Ieee.single (rng Ieee.single s) : Int) := sval_pos h
  rw [e, show sval FloatKind.f32.format 0 = 0 from zero0.1]
  by_cases h0 : (0 : Int) < units Ieee.single (rng Ieee.single s)
  · rw [Int.compare_eq_gt.2 h0, decide_eq_true h0]; rfl
  · rw [compare_eq.2 (by omega), decide_eq_false h0]; rfl
theorem qI_is (h : allF vs k = true) (hg : fcmp .gtr .f32 (scU vs k) 0 = true) (hj : j < k) : floatToIntVal .f64 (qf (scU vs k) (num vs j)) .i64 = some (qI (scU vs k) (num vs j)) := by
  have hp := allF_pos h
  rw [pos_gtr hp, decide_eq_true_eq] at hg
  obtain ⟨g1, g2⟩ := allF_le h j hj
  obtain ⟨i, hi⟩ := qf_int (fin_rng g1) hp.1 hg g2
  unfold qI
  rw [hi]; rfl
theorem bodyU_length (s k : Nat) : (bodyU vs s k).length = k * 2 := by
  induction k with
  | zero => rfl
  | succ k ih => rw [bodyU, List.length_append, ih]; simp; omega
end
theorem topL_length (f : V3) (st : Nat) (wi hi de : Int) (s : Nat) : (topL f st wi hi de s).length = 27 := rfl
def pkOk (f : V3) (st : Nat) (wi hi de : Int) (vs : List V3) : Bool := meshOk f st wi hi de vs.length && allF vs (vs.length * 3)
def pkT (f : V3) (st : Nat) (wi hi de : Int) (vs : List V3) : ByteArray := if pkOk f st wi hi de vs then stb (pkL f st wi hi de vs) else ⟨#[]⟩
section
variable {f : V3} {st : Nat} {wi hi de : Int} {vs : List V3}
theorem pk_yes (h1 : meshOk f st wi hi de vs.length = true) (h2 : allF vs (vs.length * 3) = true) : pkOk f st wi hi de vs = true := by unfold pkOk; rw [h1, h2]; rfl
theorem pk_no1 (h1 : meshOk f st wi hi de vs.length = false) : pkOk f st wi hi de vs = false := by unfold pkOk; rw [h1]; rfl
theorem pkT_yes (h : pkOk f st wi hi de vs = true) : pkT f st wi hi de vs = stb (pkL f st wi hi de vs) := by unfold pkT; rw [h]; rfl
theorem pkT_no (h : pkOk f st wi hi de vs = false) : pkT f st wi hi de vs = ⟨#[]⟩ := by unfold pkT; rw [h]; rfl
end
/-! ### words for the walks -/
section
variable {vs : List V3} {k i j p s : Nat}
theorem num_get (hj : j < 3) : num vs (i * 3 + j) = [(vs.getD i z3).1, (vs.getD i z3).2.1, (vs.getD i z3).2.2].getD j 0 := by rw [num_part hj, nums_get hj]
theorem allF_0 : allF vs 0 = true := rfl
theorem scU_0 : scU vs 0 = 0 := rfl
theorem body_0 : bodyU vs s 0 = [] := rfl
theorem scU_m (hk : num vs k = p) : scN (scU vs k) p = scU vs (k + 1) := by rw [scU, hk]
theorem allF_s (ha : allF vs k = true) (hk : num vs k = p) (hf : fin p = true) : allF vs (k + 1) = true := by rw [allF, ha, hk, hf]; rfl
theorem qI_isX {N X : Nat} (h : allF vs N = true) (hg : fcmp .gtr .f32 (scU vs N) 0 = true) (hk : num vs k = X) (hj : k < N) : floatToIntVal .f64 (qf (scU vs N) X) .i64 = some (qI (scU vs N) X) := by rw [← hk]; exact qI_is h hg hj
theorem qz_y {x : Nat} (h : fcmp .gtr .f32 s 0 = true) : qz s x = qI s x := by unfold qz; rw [if_pos h]
theorem qz_n {x : Nat} (h : fcmp .gtr .f32 s 0 = false) : qz s x = 0 := by unfold qz; rw [if_neg (by rw [h]; decide)]
theorem body_s {bs : List Int} {x : Nat} {q q2 : Int} (hk : num vs k = x) (hq : qz s x = q) (h2 : q2 = q.fdiv 256) : bl (bs ++ bodyU vs s k) ++ [.int .u8 (w8 q), .int .u8 (w8 q2)] = bl (bs ++ bodyU vs s (k + 1)) := by
  subst h2
  rw [bodyU, hk, hq, ← List.append_assoc]; simp [bl]
end
def topK (f : V3) (st s k : Nat) : List Int := ([f.1, f.2.1, f.2.2, st, s].take k).flatMap four
def hdr (wi hi de : Int) : List Int := [77, 83, 72, 49] ++ [w8 wi, w8 hi, w8 de]
theorem topK_succ {f : V3} {st s k : Nat} (h : k < 5) : topK f st s (k + 1) = topK f st s k ++ four ([f.1, f.2.1, f.2.2, st, s].getD k 0) := by
  unfold topK
  have : k = 0 ∨ k = 1 ∨ k = 2 ∨ k = 3 ∨ k = 4 := by omega
  rcases this with rfl | rfl | rfl | rfl | rfl <;> simp
theorem topK_all {f : V3} {st s : Nat} {wi hi de : Int} : hdr wi hi de ++ topK f st s 5 = topL f st wi hi de s := by simp [hdr, topK, topL]
theorem topK_0 {f : V3} {st s : Nat} {wi hi de : Int} : hdr wi hi de ++ topK f st s 0 = [77, 83, 72, 49] ++ [w8 wi, w8 hi, w8 de] := rfl
theorem topK_length {f : V3} {st s k : Nat} (h : k ≤ 5) : (topK f st s k).length = k * 4 := by
  have : k = 0 ∨ k = 1 ∨ k = 2 ∨ k = 3 ∨ k = 4 ∨ k = 5 := by omega
  rcases this with rfl | rfl | rfl | rfl | rfl | rfl <;> rfl
theorem Pick.p3 {O1 O2 O F : List Ent} {e1 e2 e3 : Ent} (h1 : Rem O [e1] O1) (h2 : Rem O1 [e2] O2) (h3 : Rem O2 [e3] F) : Pick O [e1, e2, e3] F := Pick.take h1 (Pick.take h2 (Pick.take h3 .nil))
theorem can_scU {vs : List V3} : ∀ k, Can .f32 (scU vs k)
  | 0 => (show Can .f32 0 from ⟨by decide, by decide⟩)
  | k + 1 => by
    have ih := can_scU (vs := vs) k
    rw [scU, scN]; split
    · exact can_fabs _ _
    · exact ih
theorem can_top {f : V3} {st k N : Nat} {vs : List V3} (hf : Can3 f) (hs : Can .f32 st) (h : k < 5) : Can .f32 ([f.1, f.2.1, f.2.2, st, scU vs N].getD k 0) := by
  have : k = 0 ∨ k = 1 ∨ k = 2 ∨ k = 3 ∨ k = 4 := by omega
  rcases this with rfl | rfl | rfl | rfl | rfl
  · exact hf.1
  · exact hf.2.1
  · exact hf.2.2
  · exact hs
  · exact can_scU N
theorem topK_le {f : V3} {st s k : Nat} {wi hi de : Int} (h : k ≤ 5) : (hdr wi hi de ++ topK f st s k).length ≤ 100000 := by
  rw [List.length_append, topK_length h]; simp [hdr]; omega
theorem bd_len {f : V3} {st s k : Nat} {wi hi de : Int} {vs : List V3} : (topL f st wi hi de s ++ bodyU vs s k).length = 27 + k * 2 := by rw [List.length_append, topL_length, bodyU_length]
theorem pk_val {f : V3} {st : Nat} {wi hi de : Int} {vs : List V3} (h : meshOk f st wi hi de vs.length = true) : (if allF vs (vs.length * 3) then stb (pkL f st wi hi de vs) else ⟨#[]⟩) = pkT f st wi hi de vs ∧ allF vs (vs.length * 3) = pkOk f st wi hi de vs := by
  have e : allF vs (vs.length * 3) = pkOk f st wi hi de vs := by unfold pkOk; rw [h]; rfl
  refine ⟨?_, e⟩
  unfold pkT
  rw [← e]
end Go.Proofs.Ytnommdpgmoljcaa


namespace Go.Proofs.Ytnommdpgmoljcaa
open Go.RowKit

theorem cut_even_le (s : Bool) {n d q : Nat} (h : n ≤ q * 2 ^ d) : Ieee.Toward.even.cut s n d ≤ q := by
  unfold Ieee.Toward.cut
  simp only [Nat.shiftLeft_eq, Nat.one_mul]
  by_cases hd : d ≤ n.log2 + 2
  · rw [Nat.min_eq_left hd]
    have hp := pow_pos' d
    have hlow : n / 2 ^ d ≤ q := Nat.div_le_of_le_mul (by rw [Nat.mul_comm]; exact h)
    rcases Nat.lt_or_eq_of_le hlow with hlt | heq
    · have : (decide (2 ^ d < 2 * (n % 2 ^ d)) || (2 ^ d == 2 * (n % 2 ^ d) && n / 2 ^ d % 2 == 1)).toNat ≤ 1 := Bool.toNat_le _
      omega
    · have hr : n % 2 ^ d = 0 := by
        have := Nat.div_add_mod n (2 ^ d)
        rw [heq, Nat.mul_comm] at this
        omega
      rw [heq, hr]
      have h1 : decide (2 ^ d < 2 * 0) = false := decide_eq_false (by omega)
      have h2 : (2 ^ d == 2 * 0) = false := by rw [beq_eq_false_iff_ne]; omega
      rw [h1, h2]
      simp
  · rw [Nat.min_eq_right (by omega)]
    have hlt : n < 2 ^ (n.log2 + 2) := Nat.lt_of_lt_of_le (lt_log2 n) (Nat.pow_le_pow_right (by decide) (by omega))
    have h2 : 2 * n < 2 ^ (n.log2 + 2) := by
      have := lt_log2 n
      rw [Nat.pow_succ]
      omega
    rw [Nat.div_eq_of_lt hlt, Nat.mod_eq_of_lt hlt]
    have h3 : decide (2 ^ (n.log2 + 2) < 2 * n) = false := decide_eq_false (by omega)
    have h4 : (2 ^ (n.log2 + 2) == 2 * n) = false := by rw [beq_eq_false_iff_ne]; omega
    rw [h3, h4]
    simp
/-- What is not greater than the number of a word is written as no greater word. -/
theorem nearest_le (f : Ieee.Format) (s : Bool) {m r a b : Nat} {e : Int} (he : e + a = f.leastPlace + b) (h : m * 2 ^ b ≤ units f r * 2 ^ a) : ∃ r', f.nearest s m e = f.word s r' ∧ r' ≤ r := by
  unfold Ieee.Format.nearest
  by_cases hm : m = 0
  · rw [if_pos hm]; exact ⟨0, rfl, Nat.zero_le _⟩
  rw [if_neg hm]
  refine ⟨_, rfl, Nat.le_trans (Nat.min_le_left _ _) ?_⟩
  have hmb : 0 < m * 2 ^ b := Nat.mul_pos (by omega) (pow_pos' b)
  have hu : units f r ≠ 0 := by
    intro h0
    rw [h0, Nat.zero_mul] at h
    omega
  have hl : m.log2 + b ≤ (units f r).log2 + a := by
    have := log2_mono h
    rwa [log2_mul_pow hm b, log2_mul_pow hu a] at this
  have hb : 0 < f.binade := pow_pos' _
  have hbe : f.binade = 2 ^ f.fractionBits := rfl
  have key : ∀ (q t : Nat), m * 2 ^ b ≤ q * 2 ^ t * 2 ^ a → Ieee.Toward.even.cut s (m <<< (e - (f.leastPlace + t)).toNat) ((f.leastPlace + t) - e).toNat ≤ q := by
    intro q t hqt
    rw [Nat.mul_assoc, ← Nat.pow_add] at hqt
    rcases Nat.le_total (t + a) b with hle | hle
    · have e1 : (e - (f.leastPlace + t)).toNat = b - (t + a) := by omega
      have e2 : ((f.leastPlace + t) - e).toNat = 0 := by omega
      rw [e1, e2, cut_zero, shl_eq]
      have : b = (b - (t + a)) + (t + a) := by omega
      rw [this, Nat.pow_add, ← Nat.mul_assoc] at hqt
      exact Nat.le_of_mul_le_mul_right hqt (pow_pos' _)
    · have e1 : (e - (f.leastPlace + t)).toNat = 0 := by omega
      have e2 : ((f.leastPlace + t) - e).toNat = t + a - b := by omega
      have : t + a = (t + a - b) + b := by omega
      rw [this, Nat.pow_add, ← Nat.mul_assoc] at hqt
      have hm' := Nat.le_of_mul_le_mul_right hqt (pow_pos' b)
      rw [e1, e2, shl_eq, Nat.pow_zero, Nat.mul_one]
      exact cut_even_le s hm'
  by_cases hrb : r < f.binade
  · have hur : units f r = r := by unfold units; rw [if_pos hrb]
    have hr0 : r ≠ 0 := by rw [← hur]; exact hu
    have hlg : (units f r).log2 < f.fractionBits := by
      rw [hur]
      exact (Nat.log2_lt hr0).2 hrb
    have hlast : max (e + (m.log2 : Int) - (f.fractionBits : Int)) f.leastPlace = f.leastPlace + ((0 : Nat) : Int) := by omega
    simp only [hlast]
    have hk := key r 0 (by rw [Nat.pow_zero, Nat.mul_one, ← hur]; exact h)
    have e0 : (f.leastPlace + ((0 : Nat) : Int) - f.leastPlace).toNat = 0 := by omega
    rw [e0, Nat.zero_mul, Nat.zero_add]
    exact hk
  · have hq1 : 1 ≤ r / f.binade := (Nat.le_div_iff_mul_le hb).2 (by omega)
    have hmod := Nat.mod_lt r hb
    have hur : units f r = (f.binade + r % f.binade) * 2 ^ (r / f.binade - 1) := by unfold units; rw [if_neg hrb]
    have hqne : f.binade + r % f.binade ≠ 0 := by omega
    have hlg : (units f r).log2 = f.fractionBits + (r / f.binade - 1) := by
      rw [hur, log2_mul_pow hqne]
      congr 1
      rw [Nat.log2_eq_iff hqne]
      rw [Nat.pow_succ, ← hbe]
      omega
    obtain ⟨t, ht⟩ : ∃ t : Nat, max (e + (m.log2 : Int) - (f.fractionBits : Int)) f.leastPlace = f.leastPlace + (t : Int) :=
      ⟨(max (e + (m.log2 : Int) - (f.fractionBits : Int)) f.leastPlace - f.leastPlace).toNat, by omega⟩
    have htT : t ≤ r / f.binade - 1 := by omega
    have hkl := kept_le s (m := m) (f := f.fractionBits) (place := e) (last := max (e + (m.log2 : Int) - (f.fractionBits : Int)) f.leastPlace) (Int.le_max_left _ _)
    simp only [ht] at hkl ⊢
    have e1 : (f.leastPlace + (t : Int) - f.leastPlace).toNat = t := by omega
    rw [e1]
    have e2 := Nat.div_add_mod r f.binade
    rw [Nat.mul_comm] at e2
    rcases Nat.lt_or_eq_of_le htT with hlt | heq
    · have h4 : 2 ^ (f.fractionBits + 1) = 2 * f.binade := by rw [Nat.pow_succ, Nat.mul_comm, hbe]
      rw [h4] at hkl
      have h5 : (t + 2) * f.binade ≤ r / f.binade * f.binade := Nat.mul_le_mul_right _ (by omega)
      rw [Nat.add_mul] at h5
      omega
    · have hk := key (f.binade + r % f.binade) t (by rw [heq, ← hur]; exact h)
      have h5 : (t + 1) * f.binade = r / f.binade * f.binade := by congr 1; omega
      rw [Nat.add_mul, Nat.one_mul] at h5
      omega
end Go.Proofs.Ytnommdpgmoljcaa


namespace Go.Proofs.Ytnommdpgmoljcaa
open Go.RowKit

/-- the double's word stands for a number of at most u units of 2 ^ -1074 -/
def ule (x u : Nat) : Prop := rng Ieee.double x < Ieee.double.infRung ∧ units Ieee.double (rng Ieee.double x) ≤ u
def r1 : Nat := 4607182418800017408
def u1 : Nat := units Ieee.double r1
theorem u1_is : u1 = 2 ^ 1074 := by unfold u1 units r1; decide +kernel
theorem u1_pow : ∃ c : Nat, c = 1074 ∧ u1 = 2 ^ c := ⟨1074, rfl, u1_is⟩
theorem units_mono (f : Ieee.Format) {r t : Nat} (h : r ≤ t) : units f r ≤ units f t := by
  have hb : 0 < f.binade := pow_pos' _
  rcases Nat.lt_or_ge t f.binade with ht | ht
  · have hr : r < f.binade := by omega
    unfold units
    rw [if_pos hr, if_pos ht]; exact h
  · obtain ⟨t1, t2⟩ := units_bounds f ht
    rcases Nat.lt_or_ge r f.binade with hr | hr
    · have hur : units f r = r := by unfold units; rw [if_pos hr]
      rw [hur]
      exact Nat.le_trans (Nat.le_of_lt hr) (Nat.le_trans (Nat.le_mul_of_pos_right _ (pow_pos' _)) t1)
    · obtain ⟨s1, s2⟩ := units_bounds f hr
      have hd : r / f.binade ≤ t / f.binade := Nat.div_le_div_right h
      rcases Nat.lt_or_eq_of_le hd with hlt | heq
      · have h3 : f.binade * 2 ^ (r / f.binade) ≤ f.binade * 2 ^ (t / f.binade - 1) := Nat.mul_le_mul_left _ (Nat.pow_le_pow_right (by decide) (by omega))
        omega
      · unfold units
        rw [if_neg (by omega), if_neg (by omega), heq]
        refine Nat.mul_le_mul_right _ ?_
        have e1 := Nat.div_add_mod r f.binade
        have e2 := Nat.div_add_mod t f.binade
        rw [heq] at e1
        omega
theorem ule_word (s : Bool) {r t : Nat} (h : r ≤ t) (ht : t < Ieee.double.infRung) : ule (Ieee.double.word s r) (units Ieee.double t) := by
  have hw := rng_word .f64 s (r := r) (by show r ≤ Ieee.double.infRung; omega)
  change rng Ieee.double (Ieee.double.word s r) = r ∧ _ at hw
  unfold ule
  rw [hw.1]
  exact ⟨by omega, units_mono _ h⟩
theorem quo_le1 {a b : Nat} {sa sb : Bool} {m n i j : Nat} (ha : Ieee.double.read a = .number sa m (-1074 + (i : Int))) (hb : Ieee.double.read b = .number sb n (-1074 + (j : Int))) (hn : n ≠ 0) (hl : i + m.log2 ≤ j + n.log2) (h : m * 2 ^ i ≤ n * 2 ^ j) : ule (fop .quo .f64 a b) u1 := by
  have e : fop .quo .f64 a b = ((((Ieee.double.read a).quotient 54 (Ieee.double.read b)).map Ieee.double.write).getD (qn .f64)) := rfl
  rw [e, ha, hb]
  simp only [Ieee.Datum.quotient, if_neg hn, Option.map_some, Option.getD_some]
  generalize hM : 54 + n.log2 - m.log2 = more
  have hij : i ≤ j + more := by omega
  obtain ⟨K, hK⟩ : ∃ K, j + more = i + K := ⟨j + more - i, by omega⟩
  have hD : m * 2 ^ more ≤ n * 2 ^ K := by
    have h2 : m * 2 ^ more * 2 ^ i ≤ n * 2 ^ K * 2 ^ i := by
      rw [Nat.mul_assoc, Nat.mul_comm (2 ^ more), ← Nat.mul_assoc, Nat.mul_assoc n, ← Nat.pow_add, Nat.add_comm K i, ← hK, Nat.pow_add, ← Nat.mul_assoc]
      exact Nat.mul_le_mul_right _ h
    exact Nat.le_of_mul_le_mul_right h2 (pow_pos' _)
  have hQ : 2 * ((m <<< more) / n) + ((m <<< more) % n != 0).toNat ≤ 2 ^ (K + 1) := by
    rw [shl_eq]
    generalize m * 2 ^ more = D at hD
    have hf : D / n ≤ 2 ^ K := Nat.div_le_of_le_mul hD
    rw [Nat.pow_succ]
    have hs : (D % n != 0).toNat ≤ 1 := Bool.toNat_le _
    rcases Nat.lt_or_eq_of_le hf with hlt | heq
    · omega
    · have e2 := Nat.div_add_mod D n
      rw [heq] at e2
      have h0 : D % n = 0 := by omega
      rw [heq, h0]
      simp
      omega
  obtain ⟨r', g1, g2⟩ := nearest_le Ieee.double (sa ^^ sb) (m := 2 * ((m <<< more) / n) + ((m <<< more) % n != 0).toNat) (r := r1) (a := j + more + 1) (b := i + 1074) (e := -1074 + (i : Int) - (-1074 + (j : Int)) - more - 1)
    (by have : Ieee.double.leastPlace = -1074 := by decide
        rw [this]; omega)
    (by
      change _ ≤ u1 * _
      obtain ⟨c, hc, hu⟩ := u1_pow
      rw [hu, hK, ← Nat.pow_add, ← hc]
      refine Nat.le_trans (Nat.mul_le_mul_right _ hQ) ?_
      rw [← Nat.pow_add]
      exact Nat.pow_le_pow_right (by decide) (by omega))
  show ule (Ieee.double.nearest _ _ _) u1
  rw [g1]
  exact ule_word _ g2 (by decide)
theorem mul_le1 {a b : Nat} (ha : rng Ieee.double a < Ieee.double.infRung) (hb : ule b u1) : ule (fop .mul .f64 a b) (units Ieee.double (rng Ieee.double a)) := by
  obtain ⟨hb1, hb2⟩ := hb
  obtain ⟨m, i, h1, h2⟩ := read_number Ieee.double ha
  obtain ⟨n, j, h3, h4⟩ := read_number Ieee.double hb1
  have hlp : Ieee.double.leastPlace = -1074 := by decide
  rw [hlp] at h1 h3
  have e : fop .mul .f64 a b = ((((Ieee.double.read a).product (Ieee.double.read b)).map Ieee.double.write).getD (qn .f64)) := rfl
  rw [e, h1, h3]
  simp only [Ieee.Datum.product, Option.map_some, Option.getD_some]
  obtain ⟨r', g1, g2⟩ := nearest_le Ieee.double (sgn Ieee.double a ^^ sgn Ieee.double b) (m := m * n) (r := rng Ieee.double a) (a := 1074) (b := i + j) (e := -1074 + (i : Int) + (-1074 + (j : Int)))
    (by rw [hlp]; omega)
    (by
      obtain ⟨c, hc, hu⟩ := u1_pow
      rw [← h2, Nat.pow_add, Nat.mul_mul_mul_comm, ← hc, ← hu]
      exact Nat.mul_le_mul_left _ (by rw [h4]; exact hb2))
  show ule (Ieee.double.nearest _ _ _) _
  rw [g1]
  exact ule_word _ g2 ha
end Go.Proofs.Ytnommdpgmoljcaa


namespace Go.Proofs.Ytnommdpgmoljcaa
open Go.RowKit

def rw5 : Nat := 4674736138332667904
theorem uw_is : units Ieee.double rw5 = 32767 * 2 ^ 1074 := by unfold units rw5; decide +kernel
theorem uw_pow : ∃ c : Nat, c = 1074 ∧ units Ieee.double rw5 = 32767 * 2 ^ c := ⟨1074, rfl, uw_is⟩
theorem ule_cut {y : Nat} (h : ule y (units Ieee.double rw5)) : ∃ (s : Bool) (m i : Nat), Ieee.double.read y = .number s m (-1074 + (i : Int)) ∧ ((1074 : Nat) ≤ i → m * 2 ^ (i - 1074) ≤ 32767) ∧ (i ≤ 1074 → m ≤ 32767 * 2 ^ (1074 - i)) := by
  obtain ⟨h1, h2⟩ := h
  obtain ⟨m, i, h3, h4⟩ := read_number Ieee.double h1
  have hlp : Ieee.double.leastPlace = -1074 := by decide
  rw [hlp] at h3
  obtain ⟨c, hc, hu⟩ := uw_pow
  rw [← h4, hu] at h2
  refine ⟨_, m, i, h3, fun hi => ?_, fun hi => ?_⟩
  · rw [← hc] at hi ⊢
    have e : i = (i - c) + c := by omega
    rw [e, Nat.pow_add, ← Nat.mul_assoc] at h2
    exact Nat.le_of_mul_le_mul_right h2 (pow_pos' c)
  · rw [← hc] at hi ⊢
    have e : c = (c - i) + i := by omega
    rw [e, Nat.pow_add, ← Nat.mul_assoc] at h2
    exact Nat.le_of_mul_le_mul_right h2 (pow_pos' i)
theorem round_le {y : Nat} (h : ule y (units Ieee.double rw5)) : ule (fround y) (units Ieee.double rw5) := by
  obtain ⟨s, m, i, h1, h2, h3⟩ := ule_cut h
  have h1' : FloatKind.f64.decode y = .number s m (-1074 + (i : Int)) := h1
  unfold fround
  rw [h1']
  simp only [Ieee.Datum.integral]
  have hc : Ieee.Toward.even.cut s (m <<< (-1074 + (i : Int)).toNat) (-(-1074 + (i : Int))).toNat ≤ 32767 := by
    rw [shl_eq]
    refine cut_even_le s ?_
    rcases Nat.le_total 1074 i with hi | hi
    · rw [show (-1074 + (i : Int)).toNat = i - 1074 by omega, show (-(-1074 + (i : Int))).toNat = 0 by omega, Nat.pow_zero, Nat.mul_one]
      exact h2 hi
    · rw [show (-1074 + (i : Int)).toNat = 0 by omega, show (-(-1074 + (i : Int))).toNat = 1074 - i by omega, Nat.pow_zero, Nat.mul_one]
      exact h3 hi
  obtain ⟨c, hc4, hu⟩ := uw_pow
  obtain ⟨r', g1, g2⟩ := nearest_le Ieee.double s (m := Ieee.Toward.even.cut s (m <<< (-1074 + (i : Int)).toNat) (-(-1074 + (i : Int))).toNat) (r := rw5) (a := 0) (b := c) (e := 0)
    (by have : Ieee.double.leastPlace = -1074 := by decide
        rw [this]; omega)
    (by rw [hu, Nat.pow_zero, Nat.mul_one]; exact Nat.mul_le_mul_right _ hc)
  show ule (Ieee.double.nearest _ _ _) _
  rw [g1]
  exact ule_word _ g2 (by decide)
theorem int_le {y : Nat} {q : Int} (h : ule y (units Ieee.double rw5)) (hq : floatToIntVal .f64 y .i64 = some q) : -32767 ≤ q ∧ q ≤ 32767 := by
  obtain ⟨s, m, i, h1, h2, h3⟩ := ule_cut h
  have h1' : FloatKind.f64.decode y = .number s m (-1074 + (i : Int)) := h1
  unfold floatToIntVal at hq
  rw [h1'] at hq
  simp only [Ieee.Datum.toInt, Ieee.Datum.integral] at hq
  have hz : ∀ n d, Ieee.Toward.zero.cut s n d ≤ n / 2 ^ d := by
    intro n d
    unfold Ieee.Toward.cut
    simp only [Bool.toNat_false, Nat.add_zero, Nat.shiftLeft_eq, Nat.one_mul]
    by_cases h : d ≤ n.log2 + 2
    · rw [Nat.min_eq_left h]; exact Nat.le_refl _
    · rw [Nat.min_eq_right (by omega)]
      have : n / 2 ^ (n.log2 + 2) = 0 := Nat.div_eq_of_lt (Nat.lt_of_lt_of_le Nat.lt_log2_self (Nat.pow_le_pow_right (by decide) (by omega)))
      rw [this]; exact Nat.zero_le _
  have hc : Ieee.Toward.zero.cut s (m <<< (-1074 + (i : Int)).toNat) (-(-1074 + (i : Int))).toNat ≤ 32767 := by
    refine Nat.le_trans (hz _ _) ?_
    rw [shl_eq]
    rcases Nat.le_total 1074 i with hi | hi
    · rw [show (-1074 + (i : Int)).toNat = i - 1074 by omega, show (-(-1074 + (i : Int))).toNat = 0 by omega, Nat.pow_zero, Nat.div_one]
      exact h2 hi
    · rw [show (-1074 + (i : Int)).toNat = 0 by omega, show (-(-1074 + (i : Int))).toNat = 1074 - i by omega, Nat.pow_zero, Nat.mul_one]
      exact Nat.div_le_of_le_mul (by rw [Nat.mul_comm]; exact h3 hi)
  generalize Ieee.Toward.zero.cut s (m <<< (-1074 + (i : Int)).toNat) (-(-1074 + (i : Int))).toNat = c at hq hc
  split at hq
  · injection hq with hq
    rw [← hq]
    unfold Ieee.signed
    rw [shl_eq, Nat.pow_zero, Nat.mul_one]
    split <;> omega
  · cases hq
/-- What is not greater than a single's number can be narrowed. -/
theorem fover_ule {x s : Nat} (hs : rng Ieee.single s < Ieee.single.infRung) (h : ule x (units Ieee.double (rng Ieee.double (up s)))) : fover .f64 .f32 x = false := by
  obtain ⟨h1, h2⟩ := h
  obtain ⟨_, k2, k3⟩ := up_number hs
  rw [k3] at h2
  obtain ⟨m, i, h3, h4⟩ := read_number Ieee.double h1
  have hlp : Ieee.double.leastPlace = -1074 := by decide
  rw [hlp] at h3
  have h3' : FloatKind.f64.decode x = .number (sgn Ieee.double x) m (-1074 + (i : Int)) := h3
  unfold fover
  rw [if_neg (by decide), h3']
  show (FloatKind.f32.decode (Ieee.single.nearest (sgn Ieee.double x) m (-1074 + (i : Int)))).isInfinity = false
  have hK : ∃ c : Nat, c = 925 ∧ upK = 2 ^ c := ⟨925, rfl, by unfold upK pow2; rfl⟩
  obtain ⟨c, hc, hu⟩ := hK
  obtain ⟨r', g1, g2⟩ := nearest_le Ieee.single (sgn Ieee.double x) (m := m) (r := rng Ieee.single s) (a := c) (b := i) (e := -1074 + (i : Int))
    (by have : Ieee.single.leastPlace = -149 := by decide
        rw [this]; omega)
    (by rw [h4, ← hu]; exact h2)
  rw [g1]
  have hi : Ieee.single.infRung = 2139095040 := by decide
  exact single_word_fin _ (by omega)
end Go.Proofs.Ytnommdpgmoljcaa


namespace Go.Proofs.Ytnommdpgmoljcaa
open Go.RowKit

section
variable {P : Program} {n : Nat} {w0 : World} {O : List Ent} {E : Env} {o : Oper}
theorem extN {args : Array Operand} {ts : Array TypeId} {f : FuncId} {us : List Value} {X : Type} {u : X → Value} {e : Array Value → Sem Value} (ho : o.op = .call ⟨.value (.func f), args, ts⟩) (hk : ExtF P f e) (hx : Opds E args.toList us)
    (h : ∀ (vs : Array Value) (w : World), vs.toList.map cn = us → ∃ x v w', (e vs).run P w = .ok v w' ∧ cn v = u x ∧ Below w.heap.size w w') : YN P w0 O E o u (fun _ => []) := by
  intro ρ w hE hw
  obtain ⟨fn, h1, h2, h3, h4, h5⟩ := hk
  have h2' : ¬ fn.name = "runtime.NumGoroutine" := by simpa using h2
  obtain ⟨x, v, w', g1, g2, g3⟩ := h (args.map ρ ++ #[]) w (args_map' ho hx hE)
  have hc : cn (ρ (.func f)) = .func (.func f) #[] #[] := hE.get (x := .func f) (by simp [ho, Op.operands, Call.operands]) rfl
  have hc' := cn_func hc
  have hr : (execOp ρ o).run P w = .ok (.value v) w' := by
    simp only [Array.append_empty] at g1
    simp [execOp, ho, resolve, hc', Deferred.ofValue, invoke, callFunc, program, Sem.run, h1, h2', h3, h4, h5, g1]
  rw [hr]
  exact ⟨x, g2, g3, (fun _ hf => by cases hf), List.Pairwise.nil⟩
theorem ext_bitsN {vs : Array Value} {w : World} {x : Nat} (h : vs.toList.map cn = [.float .f64 x]) : ∃ (b : {b : Nat // cb .f64 b = x}) (v : Value) (w' : World), (Extern.MathFloatBits.float64bits vs).run P w = .ok v w' ∧ cn v = .int .u64 (b.1 : Int) ∧ Below w.heap.size w w' := by
  obtain ⟨b, rfl, hb⟩ := one_arg h
  exact ⟨⟨b, hb⟩, .int .u64 b, w, rfl, rfl, Below.refl _ _⟩
theorem int_arg {vs : Array Value} {k : IntKind} {x : Int} (h : vs.toList.map cn = [.int k x]) : vs = #[.int k x] := by
  have hl : vs.toList.length = 1 := by have := congrArg List.length h; simpa using this
  obtain ⟨l⟩ := vs
  match l, hl with
  | [v], _ =>
    simp only [List.map_cons, List.map_nil, List.cons.injEq, and_true] at h
    rw [cn_int h]
theorem ext_from64 (vs : Array Value) (w : World) {x : Nat} (h : vs.toList.map cn = [.int .u64 (x : Int)]) : ∃ v w', (Extern.MathFloatBits.float64frombits vs).run P w = .ok v w' ∧ cn v = .float .f64 (cb .f64 x) ∧ Below w.heap.size w w' := by
  rw [int_arg h]
  exact ⟨.float .f64 x, w, rfl, rfl, Below.refl _ _⟩
theorem ext_from32 (vs : Array Value) (w : World) {x : Nat} (h : vs.toList.map cn = [.int .u32 (x : Int)]) : ∃ v w', (Extern.MathFloatBits.float32frombits vs).run P w = .ok v w' ∧ cn v = .float .f32 (cb .f32 x) ∧ Below w.heap.size w w' := by
  rw [int_arg h]
  exact ⟨.float .f32 x, w, rfl, rfl, Below.refl _ _⟩
theorem intBits_63 (x : Nat) : Op.intBits .andNot .u64 (x : Int) 9223372036854775808 = (pure (.int .u64 ((x % 9223372036854775808 : Nat) : Int)) : Sem Value) := by
  have h1 : BitVec.ofInt IntKind.u64.bits (x : Int) = BitVec.ofNat 64 x := by
    show BitVec.ofInt 64 (x : Int) = BitVec.ofNat 64 x
    exact BitVec.ofInt_natCast 64 x
  have h2 : ~~~ BitVec.ofInt IntKind.u64.bits 9223372036854775808 = BitVec.ofNat 64 (2 ^ 63 - 1) := by
    show ~~~ BitVec.ofInt 64 9223372036854775808 = BitVec.ofNat 64 (2 ^ 63 - 1)
    decide
  unfold Op.intBits
  simp only [h1, h2]
  congr 2
  have h3 : (BitVec.ofNat 64 x &&& BitVec.ofNat 64 (2 ^ 63 - 1)).toNat = x % 2 ^ 63 := by
    rw [BitVec.toNat_and, BitVec.toNat_ofNat, BitVec.toNat_ofNat]
    have : (2 ^ 63 - 1) % 2 ^ 64 = 2 ^ 63 - 1 := by decide
    rw [this, Nat.and_two_pow_sub_one_eq_mod]
    omega
  change IntKind.u64.wrap ((BitVec.ofNat 64 x &&& BitVec.ofNat 64 (2 ^ 63 - 1)).toNat : Int) = _
  rw [h3]
  have : x % 2 ^ 63 < 2 ^ 63 := Nat.mod_lt _ (by decide)
  have h4 : IntKind.u64.wrap ((x % 2 ^ 63 : Nat) : Int) = ((x % 2 ^ 63 : Nat) : Int) := IntWalk.u64_in _ (by omega)
  rw [h4]
theorem yr_andNot63 {t ty : TypeId} {x y : Operand} {a : Nat} (ho : o.op = .binOp .andNot t x y ty) (hx : E.opd x = some (.int .u64 (a : Int))) (hy : E.opd y = some (.int .u64 9223372036854775808)) : YR P E o (.int .u64 ((a % 9223372036854775808 : Nat) : Int)) := yr_of fun ρ w hE => by
  have h1 := cn_int (hE.get (x := x) (by simp [ho, Op.operands]) hx)
  have h2 := cn_int (hE.get (x := y) (by simp [ho, Op.operands]) hy)
  exact ⟨.int .u64 ((a % 9223372036854775808 : Nat) : Int), by simp [execOp, ho, h1, h2, eqGuard, binOp, intBits_63], rfl⟩
end

end Go.Proofs.Ytnommdpgmoljcaa


namespace Go.Proofs.Ytnommdpgmoljcaa
open Go.RowKit

/-- the byte at a place -/
def sb (s : ByteArray) (i : Nat) : Nat := ((s.data[i]?).getD 0).toNat
theorem sb_lt (s : ByteArray) (i : Nat) : sb s i < 256 := UInt8.toNat_lt _
theorem extract_size {s : ByteArray} {l h : Nat} (h2 : h ≤ s.size) : (s.extract l h).size = h - l := by
  rw [ByteArray.size_extract, Nat.min_eq_left h2]
theorem sb_extract {s : ByteArray} {l h i : Nat} (h2 : h ≤ s.size) (hi : i < h - l) : sb (s.extract l h) i = sb s (l + i) := by
  have h3 : h ≤ s.data.size := h2
  unfold sb
  rw [ByteArray.data_extract, Array.getElem?_extract, if_pos (by omega)]
section
variable {P : Program} {w0 : World} {O : List Ent} {E : Env} {o : Oper}
theorem yr_strPart {t : TypeId} {x : Operand} {lo hi : Option Operand} {s : ByteArray} {l h : Nat} (ho : o.op = .slice t x lo hi none) (ht : P.underlying t = some .string) (hx : E.opd x = some (.string s)) (hlo : OptI E lo 0 l) (hhi : OptI E hi s.size h) (h1 : l ≤ h) (h2 : h ≤ s.size) : YR P E o (.string (s.extract l h)) := yr_of fun ρ w hE => by
  have e1 := cn_string (hE.get (x := x) (by simp [ho, Op.operands]) hx)
  have key : ∀ (y : Option Operand) (d v : Nat), OptI E y d v → (∀ q, y = some q → q ∈ o.op.operands) → (y = none ∧ v = d) ∨ ∃ q k, y = some q ∧ ρ q = .int k (v : Int) := by
    intro y d v hy hm
    rcases hy with h | ⟨q, k, rfl, hq⟩
    · exact .inl h
    · exact .inr ⟨q, k, rfl, cn_int (hE.get (hm q rfl) hq)⟩
  have k1 := key lo 0 l hlo (fun q hq => by subst hq; simp [ho, Op.operands])
  have k2 := key hi s.size h hhi (fun q hq => by subst hq; simp [ho, Op.operands])
  refine ⟨.string (s.extract l h), ?_, rfl⟩
  rcases k2 with ⟨rfl, rfl⟩ | ⟨q2, t2, rfl, e2⟩
  · rcases k1 with ⟨rfl, rfl⟩ | ⟨q1, t1, rfl, e3⟩
    · simp [execOp, ho, e1, Instr.sliceAt, Instr.slice, Instr.sliceBounds, run_underlying ht]
    · simp [execOp, ho, e1, e3, Instr.sliceAt, Instr.slice, Instr.sliceBounds, run_underlying ht, run_bound h1]
  · rcases k1 with ⟨rfl, rfl⟩ | ⟨q1, t1, rfl, e3⟩
    · simp [execOp, ho, e1, e2, Instr.sliceAt, Instr.slice, Instr.sliceBounds, run_underlying ht, run_bound h2]
    · simp [execOp, ho, e1, e2, e3, Instr.sliceAt, Instr.slice, Instr.sliceBounds, run_underlying ht, run_bound h1, run_bound h2]
theorem yr_strByte {t : TypeId} {x y : Operand} {s : ByteArray} {k : IntKind} {i : Nat} {j : Int} (ho : o.op = .index t x y) (ht : P.underlying t = some .string) (hx : E.opd x = some (.string s)) (hy : E.opd y = some (.int k j)) (hj : j = (i : Int)) (hi : i < s.size) : YR P E o (.int .u8 (sb s i : Int)) := yr_of fun ρ w hE => by
  subst hj
  have e1 := cn_string (hE.get (x := x) (by simp [ho, Op.operands]) hx)
  have e2 := cn_int (hE.get (x := y) (by simp [ho, Op.operands]) hy)
  refine ⟨.int .u8 (sb s i : Int), ?_, rfl⟩
  have hi' : i < s.data.size := hi
  have hb : (s[i]?).map (·.toNat) = some (sb s i) := by
    unfold sb
    rw [Array.getElem?_eq_getElem hi']
    rw [getElem?_pos s i hi]
    rfl
  cases hs : s[i]? with
  | none => rw [hs] at hb; cases hb
  | some b =>
    rw [hs] at hb
    simp only [Option.map_some, Option.some.injEq] at hb
    simp [execOp, ho, e1, e2, Instr.index, asIntOf, run_underlying ht, hs, hb]
end
/-! ### numbers of bytes -/
theorem or_shl {a b n : Nat} (h : a < 2 ^ n) : a ||| (b * 2 ^ n) = a + b * 2 ^ n := by
  rw [← Nat.shiftLeft_eq, Nat.or_comm, ← Nat.shiftLeft_add_eq_or_of_lt h, Nat.add_comm]
def rd2 (s : ByteArray) (p : Nat) : Nat := sb s p + sb s (p + 1) * 256
def rd4 (s : ByteArray) (p : Nat) : Nat := sb s p + sb s (p + 1) * 256 + sb s (p + 2) * 65536 + sb s (p + 3) * 16777216
theorem rd2_lt (s : ByteArray) (p : Nat) : rd2 s p < 65536 := by have := sb_lt s p; have := sb_lt s (p + 1); unfold rd2; omega
theorem rd4_lt (s : ByteArray) (p : Nat) : rd4 s p < 4294967296 := by have := sb_lt s p; have := sb_lt s (p + 1); have := sb_lt s (p + 2); have := sb_lt s (p + 3); unfold rd4; omega
theorem u32_nat {a : Nat} (h : a < 4294967296) : IntKind.u32.wrap (a : Int) = (a : Int) := by
  unfold IntKind.wrap
  simp [IntKind.signed, IntKind.bits]
  omega
theorem u16_nat {a : Nat} (h : a < 65536) : IntKind.u16.wrap (a : Int) = (a : Int) := by
  unfold IntKind.wrap
  simp [IntKind.signed, IntKind.bits]
  omega
theorem i64_nat {a : Nat} (h : a < 9223372036854775808) : IntKind.i64.wrap (a : Int) = (a : Int) := wrap_in (by omega)
theorem mod_nat {a m : Nat} (h : a < m) : ((a : Int) % (m : Int)).toNat = a := by
  have : (a : Int) % (m : Int) = a := Int.emod_eq_of_lt (by omega) (by omega)
  rw [this]; rfl
theorem or_32 {a b n r : Nat} (h : a < 2 ^ n) (hr : a + b * 2 ^ n = r) (h2 : r < 4294967296) : IntKind.u32.wrap ((((a : Int) % 2 ^ IntKind.u32.bits).toNat ||| (((b * 2 ^ n : Nat) : Int) % 2 ^ IntKind.u32.bits).toNat : Nat) : Int) = (r : Int) := by
  have e : (2 : Int) ^ IntKind.u32.bits = ((4294967296 : Nat) : Int) := by decide
  rw [e, mod_nat (by omega), mod_nat (by omega), or_shl h, hr, u32_nat h2]
theorem or_16 {a b n r : Nat} (h : a < 2 ^ n) (hr : a + b * 2 ^ n = r) (h2 : r < 65536) : IntKind.u16.wrap ((((a : Int) % 2 ^ IntKind.u16.bits).toNat ||| (((b * 2 ^ n : Nat) : Int) % 2 ^ IntKind.u16.bits).toNat : Nat) : Int) = (r : Int) := by
  have e : (2 : Int) ^ IntKind.u16.bits = ((65536 : Nat) : Int) := by decide
  rw [e, mod_nat (by omega), mod_nat (by omega), or_shl h, hr, u16_nat h2]
theorem shl_32 {a b : Nat} (hb : b ≤ 32) (h : a * 2 ^ b < 4294967296) : IntKind.u32.wrap ((a : Int) * 2 ^ (min b IntKind.u32.bits)) = ((a * 2 ^ b : Nat) : Int) := by
  rw [show IntKind.u32.bits = 32 from rfl, Nat.min_eq_left hb]
  have e : (a : Int) * 2 ^ b = ((a * 2 ^ b : Nat) : Int) := by push_cast; rfl
  rw [e, u32_nat h]
theorem shl_16 {a b : Nat} (hb : b ≤ 16) (h : a * 2 ^ b < 65536) : IntKind.u16.wrap ((a : Int) * 2 ^ (min b IntKind.u16.bits)) = ((a * 2 ^ b : Nat) : Int) := by
  rw [show IntKind.u16.bits = 16 from rfl, Nat.min_eq_left hb]
  have e : (a : Int) * 2 ^ b = ((a * 2 ^ b : Nat) : Int) := by push_cast; rfl
  rw [e, u16_nat h]
theorem rd4_part {s : ByteArray} {p : Nat} (h : p + 4 ≤ s.size) : rd4 (s.extract p (p + 4)) 0 = rd4 s p := by
  unfold rd4
  rw [sb_extract h (by omega), sb_extract h (by omega), sb_extract h (by omega), sb_extract h (by omega)]
  rfl
end Go.Proofs.Ytnommdpgmoljcaa


namespace Go.Proofs.Ytnommdpgmoljcaa
open Go.RowKit

theorem quo_ule {a b : Nat} (ha : ule a (units Ieee.double (rng Ieee.double b))) (hb : rng Ieee.double b < Ieee.double.infRung) (hb0 : rng Ieee.double b ≠ 0) : ule (fop .quo .f64 a b) u1 := by
  obtain ⟨g2, hle⟩ := ha
  obtain ⟨m, i, r1, r2⟩ := read_number Ieee.double g2
  obtain ⟨n, j, r3, r4⟩ := read_number Ieee.double hb
  have hlp : Ieee.double.leastPlace = -1074 := by decide
  rw [hlp] at r1 r3
  have hn0 : n * 2 ^ j ≠ 0 := by rw [r4]; exact units_pos _ hb0
  have hn : n ≠ 0 := fun h => hn0 (by rw [h, Nat.zero_mul])
  have hle' : m * 2 ^ i ≤ n * 2 ^ j := by rw [r2, r4]; exact hle
  have hlog : i + m.log2 ≤ j + n.log2 := by
    rcases Nat.eq_zero_or_pos m with h0 | h0
    · subst h0
      have : i = 0 := by
        have hu : units Ieee.double (rng Ieee.double a) = 0 := by rw [← r2, Nat.zero_mul]
        have hr0 := (units_zero Ieee.double).1 hu
        have hsm : Ieee.double.read a = .number (sgn Ieee.double a) 0 (-1074) := by
          unfold rng at hr0
          unfold Ieee.Format.read
          simp only [hr0]
          rw [if_pos (by decide), hlp]; rfl
        rw [hsm] at r1
        injection r1 with _ _ h3
        omega
      have : Nat.log2 0 = 0 := by decide
      omega
    · have := log2_mono hle'
      rw [log2_mul_pow (by omega), log2_mul_pow hn] at this
      omega
  exact quo_le1 r1 r3 hn hlog hle'
theorem rw5_fin : rng Ieee.double rw5 < Ieee.double.infRung ∧ rng Ieee.double rw5 ≠ 0 ∧ rng Ieee.double rw5 = rw5 := by decide
theorem qf_ule {s x : Nat} (hx : rng Ieee.single x < Ieee.single.infRung) (hs : rng Ieee.single s < Ieee.single.infRung) (hs0 : rng Ieee.single s ≠ 0) (hle : units Ieee.single (rng Ieee.single x) ≤ units Ieee.single (rng Ieee.single s)) : ule (qf s x) (units Ieee.double rw5) := by
  obtain ⟨_, g2, g3⟩ := up_number hx
  obtain ⟨_, k2, k3⟩ := up_number hs
  have h1 : ule (up x) (units Ieee.double (rng Ieee.double (up s))) := ⟨g2, by rw [g3, k3]; exact Nat.mul_le_mul_right _ hle⟩
  have h0 : rng Ieee.double (up s) ≠ 0 := by
    intro h
    have := (units_zero Ieee.double).2 h
    rw [k3] at this
    exact Nat.mul_ne_zero (units_pos _ hs0) (Nat.pos_iff_ne_zero.1 upK_pos) this
  have h2 := quo_ule h1 k2 h0
  have h3 := mul_le1 rw5_fin.1 h2
  rw [rw5_fin.2.2] at h3
  exact round_le h3
theorem qI_le {vs : List V3} {k j : Nat} (h : allF vs k = true) (hg : fcmp .gtr .f32 (scU vs k) 0 = true) (hj : j < k) : -32767 ≤ qI (scU vs k) (num vs j) ∧ qI (scU vs k) (num vs j) ≤ 32767 := by
  have hp := allF_pos h
  have hq := qI_is h hg hj
  rw [pos_gtr hp, decide_eq_true_eq] at hg
  obtain ⟨g1, g2⟩ := allF_le h j hj
  exact int_le (qf_ule (fin_rng g1) hp.1 hg g2) hq
theorem qz_le {vs : List V3} {k j : Nat} (h : allF vs k = true) (hj : j < k) : -32767 ≤ qz (scU vs k) (num vs j) ∧ qz (scU vs k) (num vs j) ≤ 32767 := by
  cases hg : fcmp .gtr .f32 (scU vs k) 0
  · rw [qz_n hg]; decide
  · rw [qz_y hg]; exact qI_le h hg hj
/-- A number that is unpacked, before it is narrowed. -/
def unX (s : Nat) (q : Int) : Nat := fop .mul .f64 (up s) (fop .quo .f64 (FloatKind.f64.nearest q) rw5)
theorem near_ule {q : Int} (h : -32767 ≤ q ∧ q ≤ 32767) : ule (FloatKind.f64.nearest q) (units Ieee.double rw5) := by
  obtain ⟨c, hc4, hu⟩ := uw_pow
  obtain ⟨r', g1, g2⟩ := nearest_le Ieee.double (decide (q < 0)) (m := q.natAbs) (r := rw5) (a := 0) (b := c) (e := 0)
    (by have : Ieee.double.leastPlace = -1074 := by decide
        rw [this]; omega)
    (by rw [hu, Nat.pow_zero, Nat.mul_one]; exact Nat.mul_le_mul_right _ (by omega))
  have e : FloatKind.f64.nearest q = Ieee.double.nearest (decide (q < 0)) q.natAbs 0 := rfl
  rw [e, g1]
  exact ule_word _ g2 (by decide)
theorem unX_ule {s : Nat} {q : Int} (hs : rng Ieee.single s < Ieee.single.infRung) (h : -32767 ≤ q ∧ q ≤ 32767) : ule (unX s q) (units Ieee.double (rng Ieee.double (up s))) := by
  obtain ⟨_, k2, _⟩ := up_number hs
  have h1 := near_ule h
  have h2 := quo_ule (a := FloatKind.f64.nearest q) (b := rw5) (by rw [rw5_fin.2.2]; exact h1) rw5_fin.1 rw5_fin.2.1
  exact mul_le1 k2 h2
theorem unX_over {s : Nat} {q : Int} (hs : rng Ieee.single s < Ieee.single.infRung) (h : -32767 ≤ q ∧ q ≤ 32767) : fover .f64 .f32 (unX s q) = false := fover_ule hs (unX_ule hs h)
end Go.Proofs.Ytnommdpgmoljcaa


namespace Go.Proofs.Ytnommdpgmoljcaa
open Go.RowKit

/-- What comes of narrowing the double a. -/
def Nar (a v : Nat) : Prop := Can .f32 v ∧ (fover .f64 .f32 a = false → v = fconv .f64 .f32 a)
section
variable {P : Program} {w0 : World} {O : List Ent} {E : Env} {o : Oper}
theorem yn_narrow {src dst : TypeId} {x : Operand} {a : Nat} (ho : o.op = .convert src dst x) (hs : P.underlying src = some (.float .f64)) (hd : P.underlying dst = some (.float .f32)) (hx : E.opd x = some (.float .f64 a)) :
    YN P w0 O E o (fun v : {v : Nat // Nar a v} => .float .f32 v.1) (fun _ => []) := by
  intro ρ w hE hw
  cases hv : fover .f64 .f32 a with
  | false =>
    refine (yr_fconv (P := P) ho hs hd (by decide) hx hv ρ w hE).mono fun v w' ⟨h1, h2⟩ => ?_
    exact ⟨⟨fconv .f64 .f32 a, ⟨cb_fconv _ _ _ (by decide), fconv_lt _ _ _ (by decide)⟩, fun _ => rfl⟩, h1, h2, (fun _ hf => by cases hf), List.Pairwise.nil⟩
  | true =>
    obtain ⟨a', h1, rfl⟩ := cn_float (hE.get (x := x) (by simp [ho, Op.operands]) hx)
    have hv' := hv
    rw [fover_cb] at hv
    unfold fover at hv
    rw [if_neg (by decide)] at hv
    cases hr : FloatKind.f64.decode a' with
    | nan sg f => rw [hr] at hv; cases hv
    | infinity sg => rw [hr] at hv; cases hv
    | number sg m e =>
      rw [hr] at hv
      simp only at hv
      have hrun : (execOp ρ o).run P w = .ok (.value (.float .f32 ((Question.floatToFloat a').cut (w.tape w.drawn (.floatToFloat a'))))) { w with drawn := w.drawn + 1 } := by
        simp [execOp, ho, convert, run_underlying hs, run_underlying hd, h1, Conv.floatToFloat, hr, hv, choose, Sem.run, Question.forced]
      rw [hrun]
      have hlt : (Question.floatToFloat a').cut (w.tape w.drawn (.floatToFloat a')) < 2 ^ 32 := Nat.mod_lt _ (by decide)
      exact ⟨⟨cb .f32 ((Question.floatToFloat a').cut (w.tape w.drawn (.floatToFloat a'))), can_cb .f32 hlt, fun h => by rw [hv'] at h; cases h⟩, by simp [cn, cn1, cn0], below_drew _ _, (fun _ hf => by cases hf), List.Pairwise.nil⟩
end
end Go.Proofs.Ytnommdpgmoljcaa


namespace Go.Proofs.Ytnommdpgmoljcaa
open Go.RowKit

theorem sb_stb {bs : List Int} {i : Nat} (h : i < bs.length) : sb (stb bs) i = (bs.getD i 0).toNat % 256 := by
  unfold sb stb
  simp [List.getD, h, UInt8.toNat_ofNat']
theorem w8_nat (q : Int) : (w8 q).toNat % 256 = (q % 256).toNat := by rw [w8_mod]; omega
theorem pkL_length {f : V3} {st : Nat} {wi hi de : Int} {vs : List V3} : (pkL f st wi hi de vs).length = 27 + vs.length * 3 * 2 := bd_len
theorem getD_app {xs ys : List Int} {i : Nat} (h : xs.length ≤ i) : (xs ++ ys).getD i 0 = ys.getD (i - xs.length) 0 := by
  simp only [List.getD, List.getElem?_append_right h]
theorem getD_app' {xs ys : List Int} {i : Nat} (h : i < xs.length) : (xs ++ ys).getD i 0 = xs.getD i 0 := by
  simp only [List.getD, List.getElem?_append_left h]
theorem body_get {vs : List V3} {s k : Nat} : ∀ n, k < n → (bodyU vs s n).getD (k * 2) 0 = w8 (qz s (num vs k)) ∧ (bodyU vs s n).getD (k * 2 + 1) 0 = w8 ((qz s (num vs k)).fdiv 256)
  | 0, h => by omega
  | n + 1, h => by
    rw [bodyU]
    rcases Nat.lt_or_eq_of_le (Nat.le_of_lt_succ h) with hk | rfl
    · rw [getD_app' (by rw [bodyU_length]; omega), getD_app' (by rw [bodyU_length]; omega)]
      exact body_get n hk
    · rw [getD_app (by rw [bodyU_length]; omega), getD_app (by rw [bodyU_length]; omega), bodyU_length, Nat.sub_self, show k * 2 + 1 - k * 2 = 1 by omega]
      exact ⟨rfl, rfl⟩
section
variable {f : V3} {st : Nat} {wi hi de : Int} {vs : List V3} {k : Nat}
theorem un_q (h : k < vs.length * 3) : rd2 (stb (pkL f st wi hi de vs)) (27 + k * 2) = (qz (scU vs (vs.length * 3)) (num vs k) % 65536).toNat := by
  have hl := pkL_length (f := f) (st := st) (wi := wi) (hi := hi) (de := de) (vs := vs)
  unfold rd2
  rw [sb_stb (by omega), sb_stb (by omega)]
  unfold pkL
  rw [getD_app (by rw [topL_length]; omega), getD_app (by rw [topL_length]; omega), topL_length, show 27 + k * 2 - 27 = k * 2 by omega, show 27 + k * 2 + 1 - 27 = k * 2 + 1 by omega]
  obtain ⟨g1, g2⟩ := body_get (vs := vs) (s := scU vs (vs.length * 3)) (k := k) _ h
  rw [g1, g2, w8_nat, w8_nat, Int.fdiv_eq_ediv_of_nonneg _ (by decide)]
  omega
theorem un_s : rd4 (stb (pkL f st wi hi de vs)) 23 = scU vs (vs.length * 3) := by
  have hl := pkL_length (f := f) (st := st) (wi := wi) (hi := hi) (de := de) (vs := vs)
  have hc : scU vs (vs.length * 3) < 2 ^ 32 := (can_scU _).lt
  unfold rd4
  rw [sb_stb (by omega), sb_stb (by omega), sb_stb (by omega), sb_stb (by omega)]
  unfold pkL
  rw [getD_app' (by rw [topL_length]; omega), getD_app' (by rw [topL_length]; omega), getD_app' (by rw [topL_length]; omega), getD_app' (by rw [topL_length]; omega)]
  generalize scU vs (vs.length * 3) = S at hc
  have e : ∀ j, j < 4 → (topL f st wi hi de S).getD (23 + j) 0 = (four S).getD j 0 := by
    intro j hj
    have : j = 0 ∨ j = 1 ∨ j = 2 ∨ j = 3 := by omega
    rcases this with rfl | rfl | rfl | rfl <;> rfl
  have e0 := e 0 (by decide)
  have e1 := e 1 (by decide)
  have e2 := e 2 (by decide)
  have e3 := e 3 (by decide)
  simp only [Nat.add_zero] at e0
  rw [e0, e1, e2, e3]
  show (w8 (S : Int)).toNat % 256 + (w8 ((S / 256 : Nat) : Int)).toNat % 256 * 256 + (w8 ((S / 65536 : Nat) : Int)).toNat % 256 * 65536 + (w8 ((S / 16777216 : Nat) : Int)).toNat % 256 * 16777216 = S
  rw [w8_nat, w8_nat, w8_nat, w8_nat]
  omega
end
/-- sixteen bits as a number with a sign -/
def q16 (n : Nat) : Int := if n ≤ 32767 then (n : Int) else (n : Int) - 65536
theorem q16_of {q : Int} (h : -32767 ≤ q ∧ q ≤ 32767) : q16 ((q % 65536).toNat) = q := by unfold q16; split <;> omega
theorem q16_wrap {n : Nat} (h : n < 65536) : IntKind.i16.wrap (n : Int) = q16 n := by
  unfold q16 IntKind.wrap
  simp [IntKind.signed, IntKind.bits]
  split <;> split <;> omega
end Go.Proofs.Ytnommdpgmoljcaa


namespace Go.Proofs.Ytnommdpgmoljcaa
open Go.RowKit

end Go.Proofs.Ytnommdpgmoljcaa


namespace Go.Proofs.Ytnommdpgmoljcaa
open Go.RowKit

section
variable {f : V3} {st : Nat} {wi hi de : Int} {vs us : List V3} {k : Nat} {s : ByteArray}
theorem un_det (ha : allF vs (vs.length * 3) = true) (he : stb (pkL f st wi hi de vs) = s) (hk : k < vs.length * 3) :
    rd4 s 23 = scU vs (vs.length * 3) ∧ q16 (rd2 s (27 + k * 2)) = qz (rd4 s 23) (num vs k) ∧ fover .f64 .f32 (unX (rd4 s 23) (q16 (rd2 s (27 + k * 2)))) = false := by
  subst he
  have h1 := un_s (f := f) (st := st) (wi := wi) (hi := hi) (de := de) (vs := vs)
  have h2 := un_q (f := f) (st := st) (wi := wi) (hi := hi) (de := de) (vs := vs) hk
  have h3 := qz_le ha hk
  rw [h1, h2, q16_of h3]
  exact ⟨rfl, rfl, unX_over (allF_pos ha).1 h3⟩
theorem un_cb (he : stb (pkL f st wi hi de vs) = s) : cb .f32 (rd4 s 23) = rd4 s 23 := by
  subst he
  rw [un_s]; exact (can_scU _).1
end
end Go.Proofs.Ytnommdpgmoljcaa


namespace Go.Proofs.Ytnommdpgmoljcaa
open Go.RowKit

/-- The k-th number of a text. -/
def unV (s : ByteArray) (k : Nat) : Nat := fconv .f64 .f32 (unX (rd4 s 23) (q16 (rd2 s (27 + k * 2))))
def unL (s : ByteArray) (n : Nat) : List V3 := (List.range n).map fun i => (unV s (i * 3), unV s (i * 3 + 1), unV s (i * 3 + 2))
theorem unL_length {s : ByteArray} {n : Nat} : (unL s n).length = n := by simp [unL]
theorem unL_get {s : ByteArray} {n i : Nat} (h : i < n) : (unL s n).getD i z3 = (unV s (i * 3), unV s (i * 3 + 1), unV s (i * 3 + 2)) := by simp [unL, List.getD, h]
theorem unL_num {s : ByteArray} {n k : Nat} (h : k < n * 3) : num (unL s n) k = unV s k := by
  have hi : k / 3 < n := by omega
  unfold num
  rw [unL_get hi]
  split
  · show unV s (k / 3 * 3) = _; congr 1; omega
  · split
    · show unV s (k / 3 * 3 + 1) = _; congr 1; omega
    · show unV s (k / 3 * 3 + 2) = _; congr 1; omega
theorem list_num {vs us : List V3} (hl : vs.length = us.length) (h : ∀ k, k < vs.length * 3 → num vs k = num us k) : vs = us := by
  apply List.ext_getElem hl
  intro i h1 h2
  have e0 := h (i * 3) (by omega)
  have e1 := h (i * 3 + 1) (by omega)
  have e2 := h (i * 3 + 2) (by omega)
  rw [num_0, num_0] at e0
  rw [num_1, num_1] at e1
  rw [num_2, num_2] at e2
  simp only [List.getD, List.getElem?_eq_getElem h1, List.getElem?_eq_getElem h2, Option.getD_some] at e0 e1 e2
  exact Prod.ext e0 (Prod.ext e1 e2)
section
variable {f : V3} {st : Nat} {wi hi de : Int} {vs : List V3} {s : ByteArray}
/-- What is unpacked so, and packs to the text again, is the text's numbers. -/
theorem un_is (h : ∀ k, k < vs.length * 3 → Nar (unX (cb .f32 (rd4 s 23)) (q16 (rd2 s (27 + k * 2)))) (num vs k)) (ha : allF vs (vs.length * 3) = true) (he : stb (pkL f st wi hi de vs) = s) : vs = unL s vs.length := by
  rw [un_cb he] at h
  refine list_num unL_length.symm fun k hk => ?_
  rw [unL_num hk]
  exact (h k hk).2 (un_det ha he hk).2.2
end
section
variable {f : V3} {st : Nat} {wi hi de : Int} {vs : List V3} {s : ByteArray} {n : Nat}
/-- .. and the other way round -/
theorem un_back (hl : vs.length = n) (h : ∀ k, k < n * 3 → Nar (unX (cb .f32 (rd4 s 23)) (q16 (rd2 s (27 + k * 2)))) (num vs k)) (ha : allF (unL s n) (n * 3) = true) (he : stb (pkL f st wi hi de (unL s n)) = s) : vs = unL s n := by
  rw [un_cb he] at h
  refine list_num (by rw [hl, unL_length]) fun k hk => ?_
  rw [hl] at hk
  rw [unL_num hk]
  have hd := un_det (k := k) (vs := unL s n) (f := f) (st := st) (wi := wi) (hi := hi) (de := de) (s := s) (by rw [unL_length]; exact ha) he (by rw [unL_length]; exact hk)
  exact (h k hk).2 hd.2.2
end
end Go.Proofs.Ytnommdpgmoljcaa


namespace Go.Proofs.Ytnommdpgmoljcaa
open Go.RowKit

theorem scmp_is {a b : ByteArray} (h : scmp .eql a b = true) : a = b := by
  have h1 : (a.toList == b.toList) = true := h
  rw [ByteArray.toList_eq, ByteArray.toList_eq, beq_iff_eq] at h1
  obtain ⟨⟨l⟩⟩ := a; obtain ⟨⟨m⟩⟩ := b
  cases h1; rfl
theorem scmp_neq {a b : ByteArray} : scmp .neq a b = !scmp .eql a b := rfl
def mshText : ByteArray := ⟨#[77, 83, 72, 49]⟩
def unN (s : ByteArray) : Nat := sb s 4 * sb s 5 * sb s 6
def unF (s : ByteArray) : V3 := (cb .f32 (rd4 s 7), cb .f32 (rd4 s 11), cb .f32 (rd4 s 15))
def unSt (s : ByteArray) : Nat := cb .f32 (rd4 s 19)
def unPk (s : ByteArray) (vs : List V3) : ByteArray := stb (pkL (unF s) (unSt s) (sb s 4 : Int) (sb s 5 : Int) (sb s 6 : Int) vs)
def unMs (s : ByteArray) : Bool := meshOk (unF s) (unSt s) (sb s 4 : Int) (sb s 5 : Int) (sb s 6 : Int) (unN s)
def unPre (s : ByteArray) : Bool := decide (27 ≤ s.size) && scmp .eql (s.extract 0 4) mshText && decide (unN s ≤ 216) && decide (s.size = 27 + 6 * unN s) && unMs s
def unOk (s : ByteArray) : Bool := unPre s && allF (unL s (unN s)) (unN s * 3) && scmp .eql (unPk s (unL s (unN s))) s
def unR (s : ByteArray) : List V3 := if unOk s then unL s (unN s) else []
def unG (s : ByteArray) : V3 := if unOk s then unF s else z3
def unS (s : ByteArray) : Nat := if unOk s then unSt s else 0
def unI (s : ByteArray) (i : Nat) : Int := if unOk s then (sb s i : Int) else 0
section
variable {s : ByteArray} {i : Nat}
theorem unPre_no1 (h : s.size < 27) : unPre s = false := by unfold unPre; rw [decide_eq_false (by omega)]; rfl
theorem unPre_no2 (h : scmp .eql (s.extract 0 4) mshText = false) : unPre s = false := by unfold unPre; rw [h, Bool.and_false]; rfl
theorem unPre_no3 (h : 216 < unN s) : unPre s = false := by unfold unPre; rw [decide_eq_false (show ¬ unN s ≤ 216 by omega), Bool.and_false]; rfl
theorem unPre_no4 (h : s.size ≠ 27 + 6 * unN s) : unPre s = false := by unfold unPre; rw [decide_eq_false h, Bool.and_false]; rfl
theorem unPre_no5 (h : unMs s = false) : unPre s = false := by unfold unPre; rw [h, Bool.and_false]
theorem unPre_yes (h1 : 27 ≤ s.size) (h2 : scmp .eql (s.extract 0 4) mshText = true) (h3 : unN s ≤ 216) (h4 : s.size = 27 + 6 * unN s) (h5 : unMs s = true) : unPre s = true := by
  unfold unPre; rw [decide_eq_true h1, h2, decide_eq_true h3, decide_eq_true h4, h5]; rfl
theorem unOk_no (h : unPre s = false) : unOk s = false := by unfold unOk; rw [h]; rfl
theorem unR_yes (h : unOk s = true) : unR s = unL s (unN s) := by unfold unR; exact if_pos h
theorem unG_yes (h : unOk s = true) : unG s = unF s := by unfold unG; exact if_pos h
theorem unS_yes (h : unOk s = true) : unS s = unSt s := by unfold unS; exact if_pos h
theorem unI_yes (h : unOk s = true) : unI s i = (sb s i : Int) := by unfold unI; exact if_pos h
theorem unR_no (h : unOk s = false) : unR s = [] := by unfold unR; exact if_neg (by rw [h]; decide)
theorem unG_no (h : unOk s = false) : unG s = z3 := by unfold unG; exact if_neg (by rw [h]; decide)
theorem unS_no (h : unOk s = false) : unS s = 0 := by unfold unS; exact if_neg (by rw [h]; decide)
theorem unI_no (h : unOk s = false) : unI s i = 0 := by unfold unI; exact if_neg (by rw [h]; decide)
theorem unR_length : (unR s).length ≤ 216 := by
  unfold unR; split
  · rename_i h
    rw [unL_length]
    unfold unOk unPre at h
    simp only [Bool.and_eq_true, decide_eq_true_eq] at h
    omega
  · exact Nat.zero_le _
theorem can_unV {k : Nat} : Can .f32 (unV s k) := ⟨cb_fconv _ _ _ (by decide), fconv_lt _ _ _ (by decide)⟩
theorem cans_unR : Cans3 (unR s) := by
  unfold unR; split
  · intro v hv
    obtain ⟨i, _, rfl⟩ := List.mem_map.1 hv
    exact ⟨can_unV, can_unV, can_unV⟩
  · intro v hv; cases hv
theorem can_rd4 {p : Nat} : Can .f32 (cb .f32 (rd4 s p)) := can_cb .f32 (rd4_lt s p)
theorem can_unF : Can3 (unF s) := ⟨can_rd4, can_rd4, can_rd4⟩
theorem can_unSt : Can .f32 (unSt s) := can_rd4
theorem can_unG : Can3 (unG s) := by unfold unG; split; exact can_unF; exact can_z3
theorem can_unS : Can .f32 (unS s) := by unfold unS; split; exact can_unSt; exact can_f0
end
section
variable {s : ByteArray} {vs : List V3}
/-- What is read so: packing it tells whether the text is a mesh, and then it is the mesh's list. -/
theorem un_join (hp : unPre s = true) (hl : vs.length = unN s) (h : ∀ k, k < unN s * 3 → Nar (unX (cb .f32 (rd4 s 23)) (q16 (rd2 s (27 + k * 2)))) (num vs k)) :
    (allF vs (vs.length * 3) = false → unOk s = false) ∧ (allF vs (vs.length * 3) = true → scmp .eql (unPk s vs) s = false → unOk s = false) ∧
    (allF vs (vs.length * 3) = true → scmp .eql (unPk s vs) s = true → unOk s = true ∧ vs = unL s (unN s)) := by
  have back : unOk s = true → vs = unL s (unN s) := by
    intro ho
    unfold unOk at ho
    rw [Bool.and_eq_true, Bool.and_eq_true] at ho
    exact un_back hl h ho.1.2 (scmp_is ho.2)
  refine ⟨fun ha => ?_, fun ha hs => ?_, fun ha hs => ?_⟩
  · cases ho : unOk s with
    | false => rfl
    | true =>
      have e := back ho
      unfold unOk at ho
      rw [Bool.and_eq_true, Bool.and_eq_true, ← e, ← hl, ha] at ho
      exact absurd ho.1.2 (by decide)
  · cases ho : unOk s with
    | false => rfl
    | true =>
      have e := back ho
      unfold unOk at ho
      rw [Bool.and_eq_true, ← e, hs] at ho
      exact absurd ho.2 (by decide)
  · have e := un_is (f := unF s) (st := unSt s) (wi := (sb s 4 : Int)) (hi := (sb s 5 : Int)) (de := (sb s 6 : Int)) (by rw [hl]; exact h) ha (scmp_is hs)
    rw [hl] at e
    refine ⟨?_, e⟩
    unfold unOk
    rw [← e, ← hl, hp, ha, hs]; rfl
end
/-! ### adding to nothing -/
end Go.Proofs.Ytnommdpgmoljcaa

