/- Own texts of this claim, merged: Flo, Nar, Shut, Nest, Open, Draw, In, Root, Vec, Solve, Design, Wire, OpenW, WBase, WFl, WSteps, WSolve, Chol, WChol, WIn, WVec, WRows, WWire, Field, WWLaw, WField, Flat, Slice, Mesh. -/
import Derived.Deep.Slices
import Derived.Laws.Cover2
import Derived.Carry
import Derived.ProofKit
import Derived.Test.YtnommdpgmoljcaaProg
import Derived.KernelRfl
import Derived.Test.YtnommdpgmoljcaaKFnExactRoundMesh1
namespace Go.Proofs.Ytnommdpgmoljcaa
open Go.RowKit

theorem pow_pos' (n : Nat) : 0 < 2 ^ n := Nat.pow_pos (by decide)

/-- how many units a rung stands for -/
def units (f : Ieee.Format) (r : Nat) : Nat := if r < f.binade then r else (f.binade + r % f.binade) * 2 ^ (r / f.binade - 1)

theorem units_bounds (f : Ieee.Format) {r : Nat} (h : f.binade ≤ r) : f.binade * 2 ^ (r / f.binade - 1) ≤ units f r ∧ units f r < f.binade * 2 ^ (r / f.binade) := by
  have hb : 0 < f.binade := pow_pos' _
  have hq : 1 ≤ r / f.binade := (Nat.le_div_iff_mul_le hb).2 (by omega)
  have hm := Nat.mod_lt r hb
  have hp := pow_pos' (r / f.binade - 1)
  unfold units
  rw [if_neg (by omega)]
  constructor
  · exact Nat.mul_le_mul_right _ (by omega)
  · have e : r / f.binade = (r / f.binade - 1) + 1 := by omega
    rw [e, Nat.pow_succ, Nat.add_sub_cancel, Nat.mul_comm (2 ^ (r / f.binade - 1)) 2, ← Nat.mul_assoc]
    exact Nat.mul_lt_mul_of_pos_right (by omega) hp

theorem units_inj (f : Ieee.Format) {r s : Nat} (h : units f r = units f s) : r = s := by
  have hb : 0 < f.binade := pow_pos' _
  have key : ∀ r s, r / f.binade < s / f.binade → units f r < units f s := by
    intro r s hlt
    have hs : f.binade ≤ s := by
      have := (Nat.le_div_iff_mul_le (x := 1) hb).1 (Nat.lt_of_le_of_lt (Nat.zero_le _) hlt)
      omega
    have h2 := (units_bounds f hs).1
    by_cases hr : r < f.binade
    · have : units f r = r := by unfold units; rw [if_pos hr]
      have hp := pow_pos' (s / f.binade - 1)
      have : f.binade ≤ f.binade * 2 ^ (s / f.binade - 1) := Nat.le_mul_of_pos_right _ hp
      omega
    · have h1 := (units_bounds f (Nat.le_of_not_lt hr)).2
      have : f.binade * 2 ^ (r / f.binade) ≤ f.binade * 2 ^ (s / f.binade - 1) := Nat.mul_le_mul_left _ (Nat.pow_le_pow_right (by decide) (by omega))
      omega
  rcases Nat.lt_trichotomy (r / f.binade) (s / f.binade) with hlt | heq | hgt
  · have := key r s hlt; omega
  · have h3 : r % f.binade = s % f.binade := by
      unfold units at h
      by_cases hr : r < f.binade
      · have hs : s < f.binade := by
          rw [Nat.div_eq_of_lt hr] at heq
          rcases Nat.lt_or_ge s f.binade with h' | h'
          · exact h'
          · have := (Nat.le_div_iff_mul_le (x := 1) (y := s) hb).2 (by omega); omega
        rw [if_pos hr, if_pos hs] at h
        rw [h]
      · have hs : ¬ s < f.binade := by
          intro hs
          rw [Nat.div_eq_of_lt hs] at heq
          have := (Nat.le_div_iff_mul_le (x := 1) (y := r) hb).2 (by omega); omega
        rw [if_neg hr, if_neg hs, heq] at h
        have := Nat.eq_of_mul_eq_mul_right (pow_pos' _) h
        omega
    have e1 := Nat.div_add_mod r f.binade
    have e2 := Nat.div_add_mod s f.binade
    rw [heq, h3] at e1
    omega
  · have := key s r hgt; omega

def sgn (f : Ieee.Format) (x : Nat) : Bool := x / f.signWeight % 2 == 1
def rng (f : Ieee.Format) (x : Nat) : Nat := x % f.signWeight

/-- A word that stands for a number: its mag and place, in units. -/
theorem read_number (f : Ieee.Format) {x : Nat} (h : rng f x < f.infRung) : ∃ m e, f.read x = .number (sgn f x) m (f.leastPlace + (e : Nat)) ∧ m * 2 ^ e = units f (rng f x) := by
  unfold Ieee.Format.read units rng at *
  simp only
  split
  · exact ⟨x % f.signWeight, 0, by simp [sgn], by simp⟩
  · exact ⟨f.binade + x % f.signWeight % f.binade, x % f.signWeight / f.binade - 1, rfl, rfl⟩
theorem binade_le (k : FloatKind) : k.format.binade ≤ k.format.infRung := by cases k <;> decide
theorem read_inf (k : FloatKind) {x : Nat} (h : rng k.format x = k.format.infRung) : k.format.read x = .infinity (sgn k.format x) := by
  have hb := binade_le k
  unfold Ieee.Format.read rng at *
  simp only
  rw [h, if_neg (by omega), if_neg (by omega), if_pos rfl]; rfl
theorem read_big (k : FloatKind) {x : Nat} (h : k.format.infRung < rng k.format x) : fnan k x = true := by
  have hb := binade_le k
  unfold fnan FloatKind.decode Ieee.Format.read rng at *
  simp only
  rw [if_neg (by omega), if_neg (by omega), if_neg (by omega)]; rfl
theorem word_eq (k : FloatKind) {x y : Nat} (hx : x < 2 ^ k.format.width) (hy : y < 2 ^ k.format.width) (hs : sgn k.format x = sgn k.format y) (hr : rng k.format x = rng k.format y) : x = y := by
  rw [width_pos] at hx hy
  have hp : 0 < k.format.signWeight := pow_pos' _
  unfold sgn at hs
  unfold rng at hr
  have h1 : x / k.format.signWeight < 2 := (Nat.div_lt_iff_lt_mul hp).2 hx
  have h2 : y / k.format.signWeight < 2 := (Nat.div_lt_iff_lt_mul hp).2 hy
  rw [Nat.mod_eq_of_lt h1, Nat.mod_eq_of_lt h2] at hs
  have h3 : x / k.format.signWeight = y / k.format.signWeight := by
    generalize x / k.format.signWeight = a at *
    generalize y / k.format.signWeight = b at *
    have ha : a = 0 ∨ a = 1 := by omega
    have hb : b = 0 ∨ b = 1 := by omega
    rcases ha with rfl | rfl <;> rcases hb with rfl | rfl <;> simp at hs <;> rfl
  have e1 := Nat.div_add_mod x k.format.signWeight
  have e2 := Nat.div_add_mod y k.format.signWeight
  rw [h3, hr] at e1
  omega

/-- a canonical word -/
def Can (k : FloatKind) (x : Nat) : Prop := cb k x = x ∧ x < 2 ^ k.format.width
theorem Can.lt {k : FloatKind} {x : Nat} (h : Can k x) : x < 2 ^ k.format.width := h.2
theorem Can.nan {k : FloatKind} {x : Nat} (h : Can k x) (hn : fnan k x = true) : x = qn k := by rw [← cb_of_nan hn]; exact h.1.symm
theorem can_cb (k : FloatKind) {x : Nat} (h : x < 2 ^ k.format.width) : Can k (cb k x) := ⟨cb_idem k x, cb_lt k h⟩

theorem rng_le {k : FloatKind} {x : Nat} (h : fnan k x = false) : rng k.format x ≤ k.format.infRung := by
  rcases Nat.lt_or_ge k.format.infRung (rng k.format x) with h' | h'
  · rw [read_big k h'] at h; cases h
  · exact h'

theorem signed_val (s : Bool) (m a : Nat) : Ieee.signed s m a = if s then -((m * 2 ^ a : Nat) : Int) else ((m * 2 ^ a : Nat) : Int) := by
  unfold Ieee.signed; rw [Nat.shiftLeft_eq]

/-- How two numbers compare, in units. -/
def sval (f : Ieee.Format) (x : Nat) : Int := if sgn f x then -(units f (rng f x) : Int) else (units f (rng f x) : Int)
theorem order_number {k : FloatKind} {x y : Nat} (hx : rng k.format x < k.format.infRung) (hy : rng k.format y < k.format.infRung) : k.format.order x y = some (compare (sval k.format x) (sval k.format y)) := by
  obtain ⟨m, a, h1, h2⟩ := read_number k.format hx
  obtain ⟨m', a', h3, h4⟩ := read_number k.format hy
  unfold Ieee.Format.order
  rw [h1, h3]
  simp only [Ieee.Datum.order, signed_val, Option.some.injEq]
  unfold sval
  rw [← h2, ← h4]
  -- the place that both have
  generalize hc : min a a' = c
  have e1 : (k.format.leastPlace + (a : Int) - min (k.format.leastPlace + (a : Int)) (k.format.leastPlace + (a' : Int))).toNat = a - c := by omega
  have e2 : (k.format.leastPlace + (a' : Int) - min (k.format.leastPlace + (a : Int)) (k.format.leastPlace + (a' : Int))).toNat = a' - c := by omega
  rw [e1, e2]
  have e3 : m * 2 ^ a = m * 2 ^ (a - c) * 2 ^ c := by rw [Nat.mul_assoc, ← Nat.pow_add]; congr 2; omega
  have e4 : m' * 2 ^ a' = m' * 2 ^ (a' - c) * 2 ^ c := by rw [Nat.mul_assoc, ← Nat.pow_add]; congr 2; omega
  rw [e3, e4]
  have hp : (0 : Int) < ((2 ^ c : Nat) : Int) := by exact_mod_cast pow_pos' c
  generalize m * 2 ^ (a - c) = u
  generalize m' * 2 ^ (a' - c) = v
  have key : ∀ p q : Int, compare p q = compare (p * ((2 ^ c : Nat) : Int)) (q * ((2 ^ c : Nat) : Int)) := by
    intro p q
    generalize ((2 ^ c : Nat) : Int) = t at hp
    simp only [compare, compareOfLessAndEq]
    have l1 : p < q ↔ p * t < q * t := ⟨fun h => Int.mul_lt_mul_of_pos_right h hp, fun h => Int.lt_of_mul_lt_mul_right h (Int.le_of_lt hp)⟩
    have l2 : p = q ↔ p * t = q * t := ⟨fun h => by rw [h], fun h => Int.eq_of_mul_eq_mul_right (Int.ne_of_gt hp) h⟩
    by_cases c1 : p < q
    · rw [if_pos c1, if_pos (l1.1 c1)]
    · rw [if_neg c1, if_neg (fun h => c1 (l1.2 h))]
      by_cases c2 : p = q
      · rw [if_pos c2, if_pos (l2.1 c2)]
      · rw [if_neg c2, if_neg (fun h => c2 (l2.2 h))]
  have hs : ∀ (s : Bool) (u : Nat), (if s = true then -((u * 2 ^ c : Nat) : Int) else ((u * 2 ^ c : Nat) : Int)) = (if s = true then -(u : Int) else (u : Int)) * ((2 ^ c : Nat) : Int) := by
    intro s u
    cases s
    · simp only [Bool.false_eq_true, if_false, Int.natCast_mul]
    · simp only [if_true, Int.natCast_mul, Int.neg_mul]
  rw [hs, hs, ← key]

theorem compare_eq {a b : Int} : compare a b = .eq ↔ a = b := by
  simp only [compare, compareOfLessAndEq]
  by_cases h : a < b
  · rw [if_pos h]; constructor
    · intro h'; cases h'
    · intro h'; omega
  · rw [if_neg h]
    by_cases h2 : a = b
    · rw [if_pos h2]; exact ⟨fun _ => h2, fun _ => rfl⟩
    · rw [if_neg h2]; constructor
      · intro h'; cases h'
      · intro h'; exact absurd h' h2

theorem order_self {k : FloatKind} {x : Nat} (h : fnan k x = false) : k.format.order x x = some .eq := by
  rcases Nat.lt_or_ge (rng k.format x) k.format.infRung with h' | h'
  · rw [order_number h' h', Option.some.injEq, compare_eq]
  · have := rng_le h
    have hr := read_inf k (x := x) (by omega)
    unfold Ieee.Format.order
    rw [hr]
    cases sgn k.format x <;> rfl

theorem fne_self (k : FloatKind) (x : Nat) : fcmp .neq k x x = fnan k x := by
  cases h : fnan k x
  · simp [fcmp, order_self h]
  · simp [fcmp, order_nan_left h]
/-- is it one of the zeros -/
def isz (k : FloatKind) (x : Nat) : Bool := rng k.format x == 0
theorem units_zero (f : Ieee.Format) {r : Nat} : units f r = 0 ↔ r = 0 := by
  constructor
  · intro h
    have h0 : units f 0 = 0 := by unfold units; rw [if_pos (show 0 < f.binade from pow_pos' _)]
    exact units_inj f (h.trans h0.symm)
  · intro h; subst h; unfold units; rw [if_pos (show 0 < f.binade from pow_pos' _)]

theorem feq_iff {k : FloatKind} {x y : Nat} (hx : Can k x) (hy : Can k y) : fcmp .eql k x y = true ↔ (fnan k x = false ∧ fnan k y = false ∧ (x = y ∨ (isz k x = true ∧ isz k y = true))) := by
  cases hnx : fnan k x
  · cases hny : fnan k y
    · simp only [fcmp, beq_iff_eq, true_and]
      have rx := rng_le hnx
      have ry := rng_le hny
      rcases Nat.lt_or_ge (rng k.format x) k.format.infRung with hx' | hx'
      · rcases Nat.lt_or_ge (rng k.format y) k.format.infRung with hy' | hy'
        · rw [order_number hx' hy', Option.some.injEq, compare_eq]
          unfold sval isz
          constructor
          · intro h
            by_cases hz : units k.format (rng k.format x) = 0
            · have h2 : units k.format (rng k.format y) = 0 := by
                rw [hz] at h
                generalize units k.format (rng k.format y) = v at *
                split at h <;> split at h <;> omega
              exact .inr ⟨by simpa using (units_zero _).1 hz, by simpa using (units_zero _).1 h2⟩
            · refine .inl (word_eq k hx.lt hy.lt ?_ ?_)
              · generalize units k.format (rng k.format x) = u at *
                generalize units k.format (rng k.format y) = v at *
                cases hs : sgn k.format x <;> cases ht : sgn k.format y <;> simp only [hs, ht, if_true, Bool.false_eq_true, if_false] at h ⊢ <;> omega
              · refine units_inj k.format ?_
                generalize units k.format (rng k.format x) = u at *
                generalize units k.format (rng k.format y) = v at *
                split at h <;> split at h <;> omega
          · rintro (rfl | ⟨h1, h2⟩)
            · rfl
            · simp only [beq_iff_eq] at h1 h2
              rw [h1, h2, (units_zero _).2 rfl]
              simp
        · have hy2 := read_inf k (x := y) (by omega)
          obtain ⟨m, a, h1, _⟩ := read_number k.format hx'
          have : k.format.order x y = some (if sgn k.format y then .gt else .lt) := by
            unfold Ieee.Format.order; rw [h1, hy2]; rfl
          rw [this]
          constructor
          · intro h; split at h <;> cases h
          · rintro (h | h)
            · subst h; omega
            · have h3 : rng k.format y = 0 := by simpa [isz] using h.2
              have := binade_le k
              have : 0 < k.format.binade := pow_pos' _
              omega
      · rcases Nat.lt_or_ge (rng k.format y) k.format.infRung with hy' | hy'
        · have hx2 := read_inf k (x := x) (by omega)
          obtain ⟨m, a, h1, _⟩ := read_number k.format hy'
          have : k.format.order x y = some (if sgn k.format x then .lt else .gt) := by
            unfold Ieee.Format.order; rw [h1, hx2]; rfl
          rw [this]
          constructor
          · intro h; split at h <;> cases h
          · rintro (h | h)
            · subst h; omega
            · have h3 : rng k.format x = 0 := by simpa [isz] using h.1
              have := binade_le k
              have : 0 < k.format.binade := pow_pos' _
              omega
        · have hx2 := read_inf k (x := x) (by omega)
          have hy2 := read_inf k (x := y) (by omega)
          have : k.format.order x y = some (compare (sgn k.format y).toNat (sgn k.format x).toNat) := by
            unfold Ieee.Format.order; rw [hx2, hy2]; rfl
          rw [this]
          constructor
          · intro h
            refine .inl (word_eq k hx.lt hy.lt ?_ (by omega))
            cases hs : sgn k.format x <;> cases ht : sgn k.format y <;> rw [hs, ht] at h <;> first | rfl | (exfalso; revert h; decide)
          · rintro (h | h)
            · subst h; cases sgn k.format x <;> rfl
            · have h3 : rng k.format x = 0 := by simpa [isz] using h.1
              have := binade_le k
              have : 0 < k.format.binade := pow_pos' _
              omega
    · simp [fcmp, order_nan_right hny]
  · simp [fcmp, order_nan_left hnx]

theorem zero_words (k : FloatKind) {x : Nat} (hx : Can k x) (h : isz k x = true) : x = 0 ∨ x = k.format.signWeight := by
  have hp : 0 < k.format.signWeight := pow_pos' _
  have hlt := hx.lt
  rw [width_pos] at hlt
  have h0 : x % k.format.signWeight = 0 := by simpa [isz, rng] using h
  have h1 : x / k.format.signWeight < 2 := (Nat.div_lt_iff_lt_mul hp).2 hlt
  have e1 := Nat.div_add_mod x k.format.signWeight
  rw [h0] at e1
  have : x / k.format.signWeight = 0 ∨ x / k.format.signWeight = 1 := by
    generalize x / k.format.signWeight = q at h1
    omega
  rcases this with h2 | h2 <;> rw [h2] at e1
  · left; omega
  · right; omega
theorem isz_of_feq0 {k : FloatKind} {x : Nat} (hx : Can k x) : fcmp .eql k x 0 = isz k x := by
  have h0 : Can k 0 := by unfold Can; cases k <;> decide
  have hz : isz k 0 = true := by simp [isz, rng]
  rw [Bool.eq_iff_iff, feq_iff hx h0]
  constructor
  · rintro ⟨_, _, rfl | h⟩
    · exact hz
    · exact h.1
  · intro h
    refine ⟨?_, by cases k <;> decide, .inr ⟨h, hz⟩⟩
    rcases zero_words k hx h with rfl | rfl <;> cases k <;> decide

/-! ### the wider kind has room -/
theorem fover_up (x : Nat) : fover .f32 .f64 x = false := by
  unfold fover
  rw [if_neg (by decide)]
  cases hr : FloatKind.f32.decode x with
  | nan s f => rfl
  | infinity s => rfl
  | number s m e =>
    -- what such a word reads as
    have hm : m < 2 ^ 24 ∧ -149 ≤ e ∧ e ≤ 104 := by
      have hsw : FloatKind.f32.format.signWeight = 2147483648 := by decide
      have hinf : FloatKind.f32.format.infRung = 2139095040 := by decide
      have hbin : FloatKind.f32.format.binade = 8388608 := by decide
      have hlp : FloatKind.f32.format.leastPlace = -149 := by decide
      unfold FloatKind.decode Ieee.Format.read at hr
      simp only [hsw, hinf, hbin, hlp] at hr
      split at hr
      · cases hr; omega
      · split at hr
        · cases hr
          have : x % 2147483648 / 8388608 ≤ 254 := by omega
          omega
        · split at hr <;> cases hr
    obtain ⟨h1, h2, h3⟩ := hm
    simp only
    have key : ∀ r, r < 9218868437227405312 → ((FloatKind.f64.decode (Ieee.double.word s r)).isInfinity) = false := by
      intro r hr
      have hsw : Ieee.double.signWeight = 9223372036854775808 := by decide
      have hinf : Ieee.double.infRung = 9218868437227405312 := by decide
      have e : Ieee.double.word s r % 9223372036854775808 = r := by
        unfold Ieee.Format.word; rw [hsw]; split <;> omega
      unfold FloatKind.decode FloatKind.format Ieee.Format.read
      simp only [hsw, hinf, e]
      by_cases h1 : r < Ieee.double.binade
      · rw [if_pos h1]; rfl
      · rw [if_neg h1, if_pos hr]; rfl
    show (FloatKind.f64.decode (Ieee.double.nearest s m e)).isInfinity = false
    unfold Ieee.Format.nearest
    have hfb : Ieee.double.fractionBits = 52 := rfl
    have hlp : Ieee.double.leastPlace = -1074 := by decide
    have hbin : Ieee.double.binade = 4503599627370496 := by decide
    have hinf : Ieee.double.infRung = 9218868437227405312 := by decide
    split
    · exact key 0 (by decide)
    · rename_i hm0
      have hl : m.log2 ≤ 23 := by
        have := (Nat.log2_lt hm0).2 h1
        omega
      simp only [hfb, hlp, hbin, hinf]
      have hlast : max (e + (m.log2 : Int) - ((52 : Nat) : Int)) (-1074) = e + (m.log2 : Int) - 52 := by omega
      rw [hlast]
      have e1 : (e - (e + (m.log2 : Int) - 52)).toNat = 52 - m.log2 := by omega
      have e2 : (e + (m.log2 : Int) - 52 - e).toNat = 0 := by omega
      rw [e1, e2]
      have hcut : ∀ n, Ieee.Toward.even.cut s n 0 = n := by
        intro n
        unfold Ieee.Toward.cut
        simp [Nat.mod_one]
      rw [hcut]
      refine key _ ?_
      have hk : m <<< (52 - m.log2) < 2 ^ 53 := by
        rw [Nat.shiftLeft_eq]
        have hlt : m < 2 ^ (m.log2 + 1) := Nat.lt_log2_self
        have : m * 2 ^ (52 - m.log2) < 2 ^ (m.log2 + 1) * 2 ^ (52 - m.log2) := Nat.mul_lt_mul_of_pos_right hlt (pow_pos' _)
        rw [← Nat.pow_add] at this
        have e3 : m.log2 + 1 + (52 - m.log2) = 53 := by omega
        rwa [e3] at this
      have e4 : (e + (m.log2 : Int) - 52 - -1074).toNat ≤ 1149 := by omega
      have e6 : (2 : Nat) ^ 53 = 9007199254740992 := by decide
      rw [e6] at hk
      exact room _ _ e4 hk
where
  room (a b : Nat) (ha : a ≤ 1149) (hb : b < 9007199254740992) : min (a * 4503599627370496 + b) 9218868437227405312 < 9218868437227405312 := by omega

theorem double_word (s : Bool) {r : Nat} (h : r < 9223372036854775808) : sgn Ieee.double (Ieee.double.word s r) = s ∧ rng Ieee.double (Ieee.double.word s r) = r := by
  have hsw : Ieee.double.signWeight = 9223372036854775808 := by decide
  unfold sgn rng Ieee.Format.word
  rw [hsw]
  cases s
  · simp only [Bool.false_eq_true, if_false]
    refine ⟨?_, Nat.mod_eq_of_lt h⟩
    rw [Nat.div_eq_of_lt h]; rfl
  · simp only [if_true]
    refine ⟨?_, ?_⟩
    · rw [Nat.add_div_left _ (by decide), Nat.div_eq_of_lt h]; rfl
    · rw [Nat.add_mod_left, Nat.mod_eq_of_lt h]

theorem min_room (a b : Nat) (ha : a ≤ 1149) (hb : b < 9007199254740992) : min (a * 4503599627370496 + b) 9218868437227405312 = a * 4503599627370496 + b := Nat.min_eq_left (by omega)
theorem sum_room (a b : Nat) (ha : a ≤ 1149) (hb : b < 9007199254740992) : a * 4503599627370496 + b < 9218868437227405312 := by omega
theorem ge_room (a b : Nat) (hb : 4503599627370496 ≤ b) : ¬ a * 4503599627370496 + b < 4503599627370496 := by omega
theorem div_room (B a b : Nat) (h1 : B ≤ b) (h2 : b < B + B) : (a * B + b) / B = a + 1 ∧ (a * B + b) % B = b - B := by
  have hB : 0 < B := by omega
  obtain ⟨t, rfl⟩ := Nat.exists_eq_add_of_le h1
  have e : a * B + (B + t) = t + (a + 1) * B := by rw [Nat.add_mul]; omega
  rw [e, Nat.add_mul_div_right _ _ hB, Nat.add_mul_mod_self_right, Nat.div_eq_of_lt (by omega), Nat.mod_eq_of_lt (by omega)]
  omega

/-- The exact word of a small number in the wider kind. -/
theorem nearest_exact (s : Bool) {m : Nat} {e : Int} (h1 : m < 2 ^ 24) (h2 : -149 ≤ e) (h3 : e ≤ 104) :
    ∃ r, Ieee.double.nearest s m e = Ieee.double.word s r ∧ r < 9218868437227405312 ∧ units Ieee.double r = m * 2 ^ (e + 1074).toNat := by
  unfold Ieee.Format.nearest
  have hfb : Ieee.double.fractionBits = 52 := rfl
  have hlp : Ieee.double.leastPlace = -1074 := by decide
  have hbin : Ieee.double.binade = 4503599627370496 := by decide
  have hinf : Ieee.double.infRung = 9218868437227405312 := by decide
  by_cases hm0 : m = 0
  · rw [if_pos hm0]
    refine ⟨0, rfl, by decide, ?_⟩
    subst hm0
    rw [Nat.zero_mul]
    exact (units_zero _).2 rfl
  · rw [if_neg hm0]
    have hl : m.log2 ≤ 23 := by
      have := (Nat.log2_lt hm0).2 h1
      omega
    have hlow : 2 ^ m.log2 ≤ m := Nat.log2_self_le hm0
    have hup : m < 2 ^ (m.log2 + 1) := Nat.lt_log2_self
    simp only [hfb, hlp, hbin, hinf]
    generalize m.log2 = l at *
    have hlast : max (e + (l : Int) - ((52 : Nat) : Int)) (-1074) = e + (l : Int) - 52 := by omega
    rw [hlast]
    have e1 : (e - (e + (l : Int) - 52)).toNat = 52 - l := by omega
    have e2 : (e + (l : Int) - 52 - e).toNat = 0 := by omega
    rw [e1, e2]
    have hcut : ∀ n, Ieee.Toward.even.cut s n 0 = n := by
      intro n
      unfold Ieee.Toward.cut
      simp [Nat.mod_one]
    rw [hcut, Nat.shiftLeft_eq]
    have hk2 : m * 2 ^ (52 - l) < 9007199254740992 := by
      have : m * 2 ^ (52 - l) < 2 ^ (l + 1) * 2 ^ (52 - l) := Nat.mul_lt_mul_of_pos_right hup (pow_pos' _)
      rw [← Nat.pow_add, show l + 1 + (52 - l) = 53 by omega] at this
      exact this
    have hk1 : 4503599627370496 ≤ m * 2 ^ (52 - l) := by
      have : 2 ^ l * 2 ^ (52 - l) ≤ m * 2 ^ (52 - l) := Nat.mul_le_mul_right _ hlow
      rw [← Nat.pow_add, show l + (52 - l) = 52 by omega] at this
      exact this
    have e4 : (e + (l : Int) - 52 - -1074).toNat ≤ 1149 := by omega
    have e6 : (e + 1074).toNat = (52 - l) + (e + (l : Int) - 52 - -1074).toNat := by omega
    rw [e6, Nat.pow_add, ← Nat.mul_assoc]
    generalize (e + (l : Int) - 52 - -1074).toNat = a at *
    generalize m * 2 ^ (52 - l) = b at *
    rw [min_room a b e4 hk2]
    refine ⟨_, rfl, sum_room a b e4 hk2, ?_⟩
    obtain ⟨q1, q2⟩ := div_room 4503599627370496 a b hk1 hk2
    unfold units
    rw [hbin, q1, q2, Nat.add_sub_cancel, Nat.add_sub_cancel' hk1, if_neg (ge_room a b hk1)]

theorem read32 {x : Nat} {s : Bool} {m : Nat} {e : Int} (hr : FloatKind.f32.decode x = .number s m e) : m < 2 ^ 24 ∧ -149 ≤ e ∧ e ≤ 104 := by
  have hsw : FloatKind.f32.format.signWeight = 2147483648 := by decide
  have hinf : FloatKind.f32.format.infRung = 2139095040 := by decide
  have hbin : FloatKind.f32.format.binade = 8388608 := by decide
  have hlp : FloatKind.f32.format.leastPlace = -149 := by decide
  unfold FloatKind.decode Ieee.Format.read at hr
  simp only [hsw, hinf, hbin, hlp] at hr
  split at hr
  · cases hr; omega
  · split at hr
    · cases hr
      have : x % 2147483648 / 8388608 ≤ 254 := by omega
      omega
    · split at hr <;> cases hr

/-- the number with those bits, in the wider kind -/
@[reducible] def up (x : Nat) : Nat := fconv .f32 .f64 x
def pow2 (n : Nat) : Nat := 2 ^ n
theorem pow2_add (a n : Nat) : 2 ^ (a + n) = 2 ^ a * pow2 n := Nat.pow_add 2 a n
theorem pow2_pos (n : Nat) : 0 < pow2 n := pow_pos' n
def upK : Nat := pow2 925
theorem upK_pos : 0 < upK := pow2_pos _
theorem up_number {x : Nat} (h : rng Ieee.single x < Ieee.single.infRung) : sgn Ieee.double (up x) = sgn Ieee.single x ∧ rng Ieee.double (up x) < Ieee.double.infRung ∧ units Ieee.double (rng Ieee.double (up x)) = units Ieee.single (rng Ieee.single x) * upK := by
  obtain ⟨m, a, h1, h2⟩ := read_number Ieee.single h
  have hlp : Ieee.single.leastPlace = -149 := by decide
  have hd : FloatKind.f32.decode x = .number (sgn Ieee.single x) m (-149 + (a : Int)) := by rw [← hlp]; exact h1
  obtain ⟨g1, g2, g3⟩ := read32 hd
  obtain ⟨r, r1, r2, r3⟩ := nearest_exact (sgn Ieee.single x) g1 g2 g3
  have hup : up x = Ieee.double.word (sgn Ieee.single x) r := by
    unfold up fconv
    rw [if_neg (by decide), hd]
    exact r1
  have hlt : r < 9223372036854775808 := by omega
  obtain ⟨w1, w2⟩ := double_word (sgn Ieee.single x) hlt
  have hinf : Ieee.double.infRung = 9218868437227405312 := by decide
  rw [hup, w1, w2, hinf]
  refine ⟨rfl, r2, ?_⟩
  rw [r3, ← h2, Nat.mul_assoc]
  have e1 : (-149 + (a : Int) + 1074).toNat = a + 925 := by omega
  rw [e1, pow2_add, upK]
theorem up_inf {x : Nat} (h : rng Ieee.single x = Ieee.single.infRung) : up x = Ieee.double.word (sgn Ieee.single x) Ieee.double.infRung := by
  unfold up fconv
  rw [if_neg (by decide)]
  have : FloatKind.f32.decode x = .infinity (sgn Ieee.single x) := read_inf .f32 h
  rw [this]; rfl
theorem up_nan {x : Nat} (h : fnan .f32 x = true) : up x = qn .f64 := by
  obtain ⟨s, f, hr⟩ := read_nan h
  unfold up fconv FloatKind.decode
  rw [if_neg (by decide), hr]
theorem fnan_up (x : Nat) : fnan .f64 (up x) = fnan .f32 x := by
  cases h : fnan .f32 x
  · have := rng_le h
    rcases Nat.lt_or_ge (rng Ieee.single x) Ieee.single.infRung with h' | h'
    · obtain ⟨_, h2, _⟩ := up_number h'
      obtain ⟨m, e, h3, _⟩ := read_number Ieee.double h2
      unfold fnan FloatKind.decode
      rw [show FloatKind.f64.format.read (up x) = _ from h3]; rfl
    · have h'' : rng Ieee.single x = Ieee.single.infRung := Nat.le_antisymm this h'
      rw [up_inf h'']
      cases sgn Ieee.single x <;> decide
  · rw [up_nan h, fnan_qn]
theorem up_inj {x y : Nat} (hx : Can .f32 x) (hy : Can .f32 y) (h : up x = up y) : x = y := by
  have hn : fnan .f32 x = fnan .f32 y := by rw [← fnan_up, ← fnan_up, h]
  have hw : Ieee.double.infRung < 9223372036854775808 := by decide
  cases hnx : fnan .f32 x
  · rw [hnx] at hn
    have lx := rng_le hnx
    have ly := rng_le hn.symm
    rcases Nat.lt_or_ge (rng Ieee.single x) Ieee.single.infRung with hx' | hx'
    · obtain ⟨a1, a2, a3⟩ := up_number hx'
      rcases Nat.lt_or_ge (rng Ieee.single y) Ieee.single.infRung with hy' | hy'
      · obtain ⟨b1, b2, b3⟩ := up_number hy'
        rw [h] at a1 a3
        refine word_eq .f32 hx.lt hy.lt (a1.symm.trans b1) (units_inj Ieee.single ?_)
        rw [a3] at b3
        exact Nat.eq_of_mul_eq_mul_right upK_pos b3
      · have hy2 := up_inf (x := y) (Nat.le_antisymm ly hy')
        have := (double_word (sgn Ieee.single y) hw).2
        rw [← hy2, ← h] at this
        omega
    · have hx2 := up_inf (x := x) (Nat.le_antisymm lx hx')
      rcases Nat.lt_or_ge (rng Ieee.single y) Ieee.single.infRung with hy' | hy'
      · obtain ⟨b1, b2, b3⟩ := up_number hy'
        have := (double_word (sgn Ieee.single x) hw).2
        rw [← hx2, h] at this
        omega
      · have hy2 := up_inf (x := y) (Nat.le_antisymm ly hy')
        have w1 := (double_word (sgn Ieee.single x) hw).1
        have w2 := (double_word (sgn Ieee.single y) hw).1
        rw [← hx2, h, hy2, w2] at w1
        exact word_eq .f32 hx.lt hy.lt w1.symm ((Nat.le_antisymm lx hx').trans (Nat.le_antisymm ly hy').symm)
  · rw [hnx] at hn
    rw [hx.nan hnx, hy.nan hn.symm]
theorem can_up (x : Nat) : Can .f64 (fconv .f32 .f64 x) := ⟨cb_fconv _ _ _ (by decide), fconv_lt _ _ _ (by decide)⟩
theorem up_beq {x y : Nat} (hx : Can .f32 x) (hy : Can .f32 y) : (fconv .f32 .f64 x == fconv .f32 .f64 y) = (x == y) := by
  rw [Bool.eq_iff_iff, beq_iff_eq, beq_iff_eq]
  exact ⟨up_inj hx hy, fun h => by rw [h]⟩

/-! ### the laws' own comparison -/
theorem same_nanx {k : FloatKind} {x y : Nat} (hx : Can k x) (hy : Can k y) (h : fnan k x = true) : fnan k y = (x == y) := by
  cases hn : fnan k y
  · symm; rw [beq_eq_false_iff_ne]; rintro rfl; rw [h] at hn; cases hn
  · rw [hx.nan h, hy.nan hn]; simp
theorem same_nany {k : FloatKind} {x y : Nat} (h : fnan k x = false) (hn : fnan k y = true) : (x == y) = false := by
  rw [beq_eq_false_iff_ne]; rintro rfl; rw [h] at hn; cases hn
theorem same_zero {x y : Nat} (hx : Can .f64 x) (hy : Can .f64 y) (h : isz .f64 x = true) (h' : isz .f64 y = true) :
    (fcmp .gtr .f64 (fop .quo .f64 4607182418800017408 x) 0 == fcmp .gtr .f64 (fop .quo .f64 4607182418800017408 y) 0) = (x == y) := by
  rcases zero_words .f64 hx h with rfl | rfl <;> rcases zero_words .f64 hy h' with rfl | rfl <;> decide
theorem same_eq {k : FloatKind} {x y : Nat} (hx : Can k x) (hy : Can k y) (h : fnan k x = false) (hn : fnan k y = false) (hz : isz k x = false ∨ isz k y = false) : fcmp .eql k x y = (x == y) := by
  rw [Bool.eq_iff_iff, feq_iff hx hy, beq_iff_eq]
  constructor
  · rintro ⟨_, _, rfl | ⟨h1, h2⟩⟩
    · rfl
    · rcases hz with hz | hz
      · rw [h1] at hz; cases hz
      · rw [h2] at hz; cases hz
  · intro e; exact ⟨h, hn, .inl e⟩

/-! ### marks -/
/-- n numbers from k on, as 32-bit words -/
def marks (k : Int) (n : Nat) : List Nat := (List.range n).map fun (i : Nat) => FloatKind.f32.nearest (k + (i : Int))
theorem marks_length (k : Int) (n : Nat) : (marks k n).length = n := by simp [marks]
theorem marks_get {k : Int} {n i : Nat} (h : i < n) : (marks k n).getD i 0 = FloatKind.f32.nearest (k + (i : Int)) := by simp [marks, h]
theorem take_marks {ys : List Nat} {k : Int} {n i : Nat} (hl : ys.length = n) (ht : ys.take i = marks k i) (hi : i < n) : (ys.set i (FloatKind.f32.nearest (k + (i : Int)))).take (i + 1) = marks k (i + 1) := by
  apply List.ext_getElem?
  intro j
  have hj := congrArg (·[j]?) ht
  simp only [marks, List.getElem?_take, List.getElem?_map] at hj ⊢
  by_cases h1 : j < i
  · rw [if_pos h1, List.getElem?_range h1] at hj
    rw [if_pos (by omega), List.getElem?_set_ne (by omega), hj, List.getElem?_range (by omega)]
  · by_cases h2 : j = i
    · subst h2
      rw [if_pos (by omega), List.getElem?_set_self (by omega), List.getElem?_range (by omega)]; rfl
    · rw [if_neg (by omega), List.getElem?_eq_none (by simp; omega)]; rfl
/-! ### words of the program -/
def fin (x : Nat) : Bool := fcmp .eql .f32 (fop .sub .f32 x x) 0
def above (x : Nat) : Bool := fin x && fcmp .gtr .f32 x 0
def least (x : Nat) : Bool := fin x && fcmp .geq .f32 x 0
end Go.Proofs.Ytnommdpgmoljcaa


namespace Go.Proofs.Ytnommdpgmoljcaa
open Go.RowKit

theorem shl_eq (a b : Nat) : a <<< b = a * 2 ^ b := Nat.shiftLeft_eq a b
theorem log2_mul_pow {m : Nat} (h : m ≠ 0) (k : Nat) : (m * 2 ^ k).log2 = m.log2 + k := by
  have h1 := Nat.log2_self_le h
  have h2 : m < 2 ^ (m.log2 + 1) := Nat.lt_log2_self
  have hne : m * 2 ^ k ≠ 0 := Nat.mul_ne_zero h (Nat.ne_of_gt (pow_pos' k))
  apply Nat.le_antisymm
  · have : m * 2 ^ k < 2 ^ (m.log2 + k + 1) := by
      rw [show m.log2 + k + 1 = (m.log2 + 1) + k by omega, Nat.pow_add]
      exact Nat.mul_lt_mul_of_pos_right h2 (pow_pos' k)
    have := (Nat.log2_lt hne).2 this
    omega
  · rw [Nat.le_log2 hne, Nat.pow_add]
    exact Nat.mul_le_mul_right _ h1

/-- What is cut is at most one more than the quotient. -/
theorem cut_le (s : Bool) (n drop : Nat) : Ieee.Toward.even.cut s n drop ≤ n / 2 ^ min drop (n.log2 + 2) + 1 := by
  unfold Ieee.Toward.cut
  simp only [shl_eq, Nat.one_mul]
  generalize n / 2 ^ min drop (n.log2 + 2) = q
  have : ∀ b : Bool, q + b.toNat ≤ q + 1 := fun b => by cases b <;> simp
  exact this _
theorem cut_zero (s : Bool) (n : Nat) : Ieee.Toward.even.cut s n 0 = n := by
  unfold Ieee.Toward.cut
  simp [Nat.mod_one]
theorem cut_exact (s : Bool) (a d : Nat) (ha : a ≠ 0) : Ieee.Toward.even.cut s (a * 2 ^ d) d = a := by
  unfold Ieee.Toward.cut
  have hl := log2_mul_pow ha d
  have hmin : min d ((a * 2 ^ d).log2 + 2) = d := by rw [hl]; omega
  simp only [shl_eq, Nat.one_mul, hmin]
  have h1 : a * 2 ^ d / 2 ^ d = a := Nat.mul_div_cancel _ (pow_pos' d)
  have h2 : a * 2 ^ d % 2 ^ d = 0 := Nat.mul_mod_left _ _
  rw [h1, h2]
  have hp := pow_pos' d
  have : (decide (2 ^ d < 2 * 0) || 2 ^ d == 2 * 0 && a % 2 == 1) = false := by
    have : (2 ^ d == 2 * 0) = false := by rw [beq_eq_false_iff_ne]; omega
    rw [this]; simp
  rw [this]; rfl

/-- the kept digits of a number are at most 2 ^ (fraction bits + 1) -/
theorem kept_le (s : Bool) {m f : Nat} {place last : Int} (h : place + m.log2 - f ≤ last) : Ieee.Toward.even.cut s (m <<< (place - last).toNat) (last - place).toNat ≤ 2 ^ (f + 1) := by
  have hup : m < 2 ^ (m.log2 + 1) := Nat.lt_log2_self
  rcases Int.le_total last place with hle | hle
  · have e1 : (last - place).toNat = 0 := by omega
    rw [e1, cut_zero, shl_eq]
    have : m * 2 ^ (place - last).toNat < 2 ^ (m.log2 + 1) * 2 ^ (place - last).toNat := Nat.mul_lt_mul_of_pos_right hup (pow_pos' _)
    rw [← Nat.pow_add] at this
    have h3 : 2 ^ (m.log2 + 1 + (place - last).toNat) ≤ 2 ^ (f + 1) := Nat.pow_le_pow_right (by decide) (by omega)
    omega
  · have e1 : (place - last).toNat = 0 := by omega
    rw [e1, shl_eq, Nat.pow_zero, Nat.mul_one]
    refine Nat.le_trans (cut_le s m _) ?_
    generalize hd : (last - place).toNat = d
    have hfd : m.log2 + 1 ≤ f + 1 + d := by omega
    -- the quotient is below 2 ^ (f + 1)
    have : m / 2 ^ min d (m.log2 + 2) < 2 ^ (f + 1) := by
      rw [Nat.div_lt_iff_lt_mul (pow_pos' _), ← Nat.pow_add]
      exact Nat.lt_of_lt_of_le hup (Nat.pow_le_pow_right (by decide) (by omega))
    omega

/-- The rung of a nearest word. -/
theorem nearest_rung (f : Ieee.Format) (s : Bool) {m : Nat} {place : Int} {t : Nat} (h : place + m.log2 ≤ f.leastPlace + f.fractionBits + t) :
    ∃ r, f.nearest s m place = f.word s r ∧ r ≤ (t + 2) * f.binade := by
  unfold Ieee.Format.nearest
  by_cases hm : m = 0
  · rw [if_pos hm]; exact ⟨0, rfl, Nat.zero_le _⟩
  · rw [if_neg hm]
    refine ⟨_, rfl, Nat.le_trans (Nat.min_le_left _ _) ?_⟩
    have hk := kept_le s (m := m) (f := f.fractionBits) (place := place) (last := max (place + (m.log2 : Int) - (f.fractionBits : Int)) f.leastPlace) (Int.le_max_left _ _)
    have hb : 2 ^ (f.fractionBits + 1) = 2 * f.binade := by rw [Nat.pow_succ, Nat.mul_comm]; rfl
    rw [hb] at hk
    have ht : (max (place + (m.log2 : Int) - (f.fractionBits : Int)) f.leastPlace - f.leastPlace).toNat ≤ t := by omega
    have := Nat.mul_le_mul_right f.binade ht
    rw [Nat.add_mul]
    exact Nat.add_le_add this hk

theorem single_word_fin (s : Bool) {r : Nat} (h : r < 2139095040) : (FloatKind.f32.decode (Ieee.single.word s r)).isInfinity = false := by
  have hsw : Ieee.single.signWeight = 2147483648 := by decide
  have hinf : Ieee.single.infRung = 2139095040 := by decide
  have e : Ieee.single.word s r % 2147483648 = r := by
    unfold Ieee.Format.word; rw [hsw]; split <;> omega
  unfold FloatKind.decode FloatKind.format Ieee.Format.read
  simp only [hsw, hinf, e]
  by_cases h1 : r < Ieee.single.binade
  · rw [if_pos h1]; rfl
  · rw [if_neg h1, if_pos h]; rfl

/-! ### what is rounded to a whole number -/
/-- a double word's number is below 2 ^ (t + 1) if its rung is below .. -/
theorem decode_word_double (s : Bool) {r : Nat} (hr : r < 9218868437227405312) : ∃ m e, FloatKind.f64.decode (Ieee.double.word s r) = .number s m e ∧ e + m.log2 ≤ -1074 + 52 + (r / 4503599627370496 : Nat) := by
  have hsw : Ieee.double.signWeight = 9223372036854775808 := by decide
  have hinf : Ieee.double.infRung = 9218868437227405312 := by decide
  have hbin : Ieee.double.binade = 4503599627370496 := by decide
  have hlp : Ieee.double.leastPlace = -1074 := by decide
  have hw := double_word s (r := r) (by omega)
  have hm : Ieee.double.word s r % 9223372036854775808 = r := by have := hw.2; unfold rng at this; rwa [hsw] at this
  have hs : (Ieee.double.word s r / 9223372036854775808 % 2 == 1) = s := by have := hw.1; unfold sgn at this; rwa [hsw] at this
  unfold FloatKind.decode FloatKind.format Ieee.Format.read
  simp only [hsw, hinf, hbin, hlp, hm, hs]
  by_cases h1 : r < 4503599627370496
  · rw [if_pos h1]
    refine ⟨r, -1074, rfl, ?_⟩
    have hl : r.log2 ≤ 52 := by
      by_cases h0 : r = 0
      · subst h0; decide
      · have := (Nat.log2_lt h0 (k := 52)).2 h1
        omega
    omega
  · rw [if_neg h1, if_pos hr]
    refine ⟨_, _, rfl, ?_⟩
    have hl : (4503599627370496 + r % 4503599627370496).log2 ≤ 52 := by
      have h2 : 4503599627370496 + r % 4503599627370496 < 2 ^ 53 := by
        have : (2 : Nat) ^ 53 = 9007199254740992 := by decide
        omega
      have := (Nat.log2_lt (by omega)).2 h2
      omega
    have : 1 ≤ r / 4503599627370496 := by omega
    omega

theorem encode_small (s : Bool) {m : Nat} {e : Int} {t : Nat} (h : e + m.log2 ≤ -1074 + 52 + (t : Int)) (ht : t ≤ 2000) : ∃ m' e', FloatKind.f64.decode (FloatKind.f64.encode (.number s m e)) = .number s m' e' ∧ e' + m'.log2 ≤ -1074 + 52 + ((t + 2 : Nat) : Int) := by
  have hlp : Ieee.double.leastPlace = -1074 := by decide
  have hfb : Ieee.double.fractionBits = 52 := rfl
  have hbin : Ieee.double.binade = 4503599627370496 := by decide
  obtain ⟨r, h1, h2⟩ := nearest_rung Ieee.double s (m := m) (place := e) (t := t) (by rw [hlp, hfb]; omega)
  rw [hbin] at h2
  show ∃ m' e', FloatKind.f64.decode (Ieee.double.nearest s m e) = .number s m' e' ∧ _
  rw [h1]
  obtain ⟨m', e', g1, g2⟩ := decode_word_double s (r := r) (by omega)
  refine ⟨m', e', g1, Int.le_trans g2 ?_⟩
  have : r / 4503599627370496 ≤ t + 2 := by omega
  omega

/-! ### steps -/
end Go.Proofs.Ytnommdpgmoljcaa


namespace Go.Proofs.Ytnommdpgmoljcaa
open Go.RowKit Go.ChangeShapes Go.WideShapes Go.Deep

section
variable {H : Type} {enc : TypeId × Value → H} {P : Program}

def parB (P : Program) (ts : List TypeId) : Bool := ts.all fun t => P.readableRec t && decide (t < P.types.size)

theorem trodAll_below {W W' : World} (hl : laidOutB P = true) (hb : Below W.heap.size W W') {sp : Nat → Bool} : ∀ {ts : List TypeId} {vs : List Value} {ds : List (DataW H)} {ps : List MemPlace}, parB P ts = true → DataW.TrodAll enc P W 0 (fun _ => true) true ts vs ds ps →
    (∀ x ∈ ps, x.block < W.heap.size) → (∀ x ∈ ps, sp x.block = true) → DataW.TrodAll enc P W' 0 sp true ts vs ds ps
  | [], _, _, _, _, h, _, _ => by
    obtain ⟨rfl, rfl, rfl⟩ := trodAll_nil h
    exact trodAll_mk0
  | t :: ts, _, _, _, hp, h, hlt, hs => by
    obtain ⟨v, vs, d, ds, p, q, rfl, rfl, rfl, h1, h2⟩ := trodAll_cons h
    simp only [parB, List.all_cons, Bool.and_eq_true, decide_eq_true_eq] at hp
    refine ⟨p, q, WideElems.Trod_stays hl hp.1.1 hp.1.2 h1 (fun x hx => hb.same (hlt x (List.mem_append_left _ hx))) (fun x hx => hs x (List.mem_append_left _ hx)), ?_, rfl⟩
    exact trodAll_below hl hb (by simpa [parB] using hp.2) h2 (fun x hx => hlt x (List.mem_append_right _ hx)) (fun x hx => hs x (List.mem_append_right _ hx))

/-- A law that only reads: true, and each argument reads as it did. -/
theorem law_post {f : Func} {s : ChangeSpec} {fresh handsOn again : Bool} {W W' : World} {args : Array Value} {ds gs : List (DataW H)} {before : List MemPlace} {t : TypeId}
    (hl : laidOutB P = true) (hpar : parB P f.params.toList = true) (hrt : f.resultTypes = #[t]) (ht : P.underlying t = some .bool) (hvars : s.vars = [])
    (hfn : s.fn H (ds ++ gs) = { results := [.lit (.bool true)], args := ds })
    (hW : DataW.Whole enc P f.params.toList s.vars false W args.toList ds gs before) (hb : Below W.heap.size W W') : s.post enc P f false fresh handsOn again W args (.bool true) W' := by
  have hW' := hW
  obtain ⟨p, q, hA, hV, rfl, hfz, hnd⟩ := hW'
  rw [hvars] at hV
  obtain ⟨rfl, rfl⟩ := trodVars_none hV
  have hlt : ∀ x ∈ p, x.block < W.heap.size := fun x hx => by simpa using hW.lt x (by simpa using hx)
  have hres : ∀ (b : Nat) (sp : Nat → Bool) (hd : Bool), DataW.TrodAll enc P W' b sp hd f.resultTypes.toList ((Value.bool true).resultList f.resultTypes.size) (s.fn H (ds ++ [])).results [] := by
    intro b sp hd
    rw [hfn, hrt]
    exact trodAll_mk1 (shut_bool ht true)
  have hargs : ∀ sp : Nat → Bool, (∀ x ∈ p, sp x.block = true) → DataW.TrodAll enc P W' 0 sp true f.params.toList args.toList (s.fn H (ds ++ [])).args p := by
    intro sp hs
    rw [hfn]
    exact trodAll_below hl hb hpar hA hlt hs
  have hvs : ∀ sp : Nat → Bool, DataW.TrodVars enc P W' sp s.vars (s.fn H (ds ++ [])).vars [] := by
    intro sp
    rw [hvars, hfn]
    rfl
  refine ⟨ds, [], _, [], p, [], hW, hres _ _ _, hargs _ (fun x hx => by simpa using hlt x hx), hvs _, hb.frame _, fun _ => ?_⟩
  refine ⟨ok_one hrt rfl (okWide_bool_mk ht true), _, _, ([] ++ p) ++ [], ⟨[] ++ p, [], trodAll_append (hargs _ (fun _ _ => rfl)) (hres _ _ _), hvs _, rfl, ?_, fun h => by cases h⟩, ?_⟩
  · intro b off hp
    have hp' : MemPlace.cell b off ∈ p := by simpa using hp
    rw [hb.frozen (p := ⟨b, off, none⟩) (hlt _ hp')]
    exact hfz b off (by simpa using hp')
  · intro x hx _
    simpa using hx

theorem wf_lt {k : FloatKind} {b : Nat} (h : (Lit.float k b).wf = true) : b < 2 ^ k.format.width := by
  cases k <;> (simp only [Lit.wf, decide_eq_true_eq] at h; exact Nat.lt_of_lt_of_le h (by decide))
end
end Go.Proofs.Ytnommdpgmoljcaa


namespace Go.Proofs.Ytnommdpgmoljcaa
open Go.RowKit

def hd (f : Nat → Option Addr × Nat) (xss : List (List Nat)) : List Value := (List.range xss.length).map fun i => .slice (f i).1 (xss.getD i []).length (f i).2
def rents (t : TypeId) (f : Nat → Option Addr × Nat) (xss : List (List Nat)) : List Ent := (List.range xss.length).map fun i => ⟨(f i).1, fl (xss.getD i []), (f i).2 * 1, t⟩
theorem rents_mem {t : TypeId} {f : Nat → Option Addr × Nat} {xss : List (List Nat)} {i : Nat} (h : i < xss.length) : (⟨(f i).1, fl (xss.getD i []), (f i).2 * 1, t⟩ : Ent) ∈ rents t f xss := by
  unfold rents
  exact List.mem_map.2 ⟨i, by simpa using h, rfl⟩
/-- Each row's cells lie where its header says. -/
def Rws (w : World) (f : Nat → Option Addr × Nat) (xss : List (List Nat)) : Prop := ∀ i, i < xss.length → Cl w (f i).1 (fl (xss.getD i []))
theorem Rws.below {w w' : World} {f : Nat → Option Addr × Nat} {xss : List (List Nat)} (h : Rws w f xss) (hb : Below w.heap.size w w') : Rws w' f xss := fun i hi => (h i hi).below hb
theorem Rws.root {w0 w : World} {O : List Ent} {f : Nat → Option Addr × Nat} {xss : List (List Nat)} (h : Rws w0 f xss) (hw : Hp w0 O w) : Rws w f xss := h.below hw.below
inductive RowsIn : List Ent → TypeId → (Nat → Option Addr × Nat) → List (List Nat) → Prop
  | here {t : TypeId} {f : Nat → Option Addr × Nat} {xss : List (List Nat)} {O : List Ent} : RowsIn (rents t f xss ++ O) t f xss
  | last {t : TypeId} {f : Nat → Option Addr × Nat} {xss : List (List Nat)} : RowsIn (rents t f xss) t f xss
  | there {t : TypeId} {f : Nat → Option Addr × Nat} {xss : List (List Nat)} {e : Ent} {O : List Ent} : RowsIn O t f xss → RowsIn (e :: O) t f xss
  | thereS {t : TypeId} {f : Nat → Option Addr × Nat} {xss : List (List Nat)} {S O : List Ent} : RowsIn O t f xss → RowsIn (S ++ O) t f xss
theorem RowsIn.mem {O : List Ent} {t : TypeId} {f : Nat → Option Addr × Nat} {xss : List (List Nat)} (h : RowsIn O t f xss) : ∀ i, i < xss.length → (⟨(f i).1, fl (xss.getD i []), (f i).2 * 1, t⟩ : Ent) ∈ O := by
  induction h with
  | here => exact fun i hi => List.mem_append_left _ (rents_mem hi)
  | last => exact fun i hi => rents_mem hi
  | there _ ih => exact fun i hi => List.mem_cons_of_mem _ (ih i hi)
  | thereS _ ih => exact fun i hi => List.mem_append_right _ (ih i hi)
theorem Rws.own {w0 w : World} {O : List Ent} {t : TypeId} {f : Nat → Option Addr × Nat} {xss : List (List Nat)} (h : RowsIn O t f xss) (hw : Hp w0 O w) : Rws w f xss := fun i hi => Sees.own (h.mem i hi) w hw
def Cans (xss : List (List Nat)) : Prop := ∀ xs ∈ xss, ∀ x ∈ xs, Can .f32 x
theorem Cans.row {xss : List (List Nat)} (h : Cans xss) {k : Nat} (hk : k < xss.length) : ∀ x ∈ xss.getD k [], Can .f32 x := h _ (by simp [hk])

/-! ### sizes -/
def szOf (left : Int) (m : Nat) : Int := if left < m then -1 else left - m
/-! ### rows that are marked -/
section
variable {P : Program} {n : Nat} {w0 : World} {O : List Ent} {E : Env} {o : Oper}
/-! ### results that lie in cells -/
def rdRes (tmps : Array Value) : ResultVar → Sem Value
  | .tmp t => pure (tmps.getD t undef)
  | .cell c t => do loadVar t (← asAddr (tmps.getD c undef))
theorem results_rd (fn : Func) (tmps : Array Value) : results fn tmps = (do let vs ← fn.results.mapM (rdRes tmps); pure (if h : vs.size = 1 then vs[0] else .tuple vs)) := by
  unfold results
  congr 1
def RV (n : Nat) (P : Program) (w0 : World) (O : List Ent) (E : Env) (r : ResultVar) (u : Value) : Prop :=
  ∀ (a : Act) (w : World), Models n E a → Hp w0 O w → ∃ v, (rdRes a.tmps r).run P w = .ok v w ∧ cn1 v = u
theorem rv_tmp {t : Tmp} {u : Value} (hu : E.get t = some u) (hn : ∀ z, u ≠ .tuple z) : RV n P w0 O E (.tmp t) u := by
  intro a w ha hw
  obtain ⟨v, h1, h2⟩ := ha.get t u hu
  exact ⟨v, by simp [rdRes, h1], cn_of_ne h2 hn⟩
theorem rv_cellS {c : Tmp} {t : TypeId} {a : Option Addr} {k z : Nat} {us cs : List Value} {fs : Array Field} (hu : E.get c = some (.pointer (some (adr a k)))) (ht : P.underlying t = some (.struct fs)) (hz : (P.info? t).map (·.size) = some z) (hs : Sees w0 O a us)
    (hcs : (us.drop k).take z = cs) (hl : cs.length = z) (hsc : cs.all scal = true) : RV n P w0 O E (.cell c t) (.agg cs.toArray) := by
  intro ac w ha hw
  obtain ⟨v, h1, h2⟩ := ha.get c _ hu
  have e1 := cn_pointer h2
  obtain ⟨vs, g1, g2, g3⟩ := (hs w hw).cellsN cs k (fun j u hj => by
    subst hcs
    have hj' : j < z := by
      have := (List.getElem?_eq_some_iff.1 hj).1
      simp at this; omega
    rw [List.getElem?_take, if_pos hj', List.getElem?_drop] at hj
    exact hj)
  obtain ⟨h4, h5⟩ := map_cn0_of g3 hsc
  have hload := run_loadCells_adr (P := P) (w := w) (a := a) (k := k) vs g2
  rw [g1, hl] at hload
  refine ⟨.agg vs.toArray, ?_, by simp [cn1, h4]⟩
  simp [rdRes, h1, e1, asAddr, loadVar, aggB ht, info_size hz, hload]
inductive RVs (n : Nat) (P : Program) (w0 : World) (O : List Ent) (E : Env) : List ResultVar → List Value → Prop
  | nil : RVs n P w0 O E [] []
  | cons {r : ResultVar} {u : Value} {rs : List ResultVar} {us : List Value} : RV n P w0 O E r u → RVs n P w0 O E rs us → RVs n P w0 O E (r :: rs) (u :: us)
theorem RVs.run {rs : List ResultVar} {us : List Value} (h : RVs n P w0 O E rs us) {a : Act} {w : World} (ha : Models n E a) (hw : Hp w0 O w) :
    ∃ vs : List Value, (rs.mapM (m := Sem) (rdRes a.tmps)).run P w = .ok vs w ∧ vs.map cn1 = us := by
  induction h with
  | nil => exact ⟨[], rfl, rfl⟩
  | cons hr _ ih =>
    obtain ⟨v, h1, h2⟩ := hr a w ha hw
    obtain ⟨vs, h3, h4⟩ := ih
    exact ⟨v :: vs, by simp only [List.mapM_cons, Sem.run_bind, h1, Result.andThen_ok, h3, Sem.run_pure], by simp [h2, h4]⟩
theorem run_results {fn : Func} {rs : List ResultVar} {us : List Value} (hr : fn.results = rs.toArray) (h : RVs n P w0 O E rs us) {a : Act} {w : World} (ha : Models n E a) (hw : Hp w0 O w) :
    ∃ vs : List Value, (results fn a.tmps).run P w = .ok (if h : vs.toArray.size = 1 then vs.toArray[0] else .tuple vs.toArray) w ∧ vs.map cn1 = us := by
  obtain ⟨vs, h1, h2⟩ := h.run ha hw
  refine ⟨vs, ?_, h2⟩
  rw [results_rd, hr, Array.mapM_eq_mapM_toList, Sem.run_bind, Sem.run_map]
  rw [h1]
  rfl
theorem retC {fn : Func} {R : Value → World → Prop} {r : ResultVar} {u : Value} (hr : fn.results = #[r]) (h : RV n P w0 O E r u) (hn : ∀ z, u ≠ .tuple z) (hk : ∀ w, Hp w0 O w → R u w) : VE n w0 O E (Ends P fn R) .ret := by
  intro a w ha hw
  obtain ⟨vs, h1, h2⟩ := run_results (rs := [r]) hr (.cons h .nil) ha hw
  match vs, h2 with
  | [v], h2 =>
    simp only [List.map_cons, List.map_nil, List.cons.injEq, and_true] at h2
    refine bodyPost_ret h1 ha.defers ⟨v, rfl, ?_⟩
    have : cn v = u := by
      rw [← h2] at hn ⊢
      cases v <;> first | rfl | exact absurd rfl (hn _)
    rw [this]; exact hk w hw
theorem retN {fn : Func} {R : Value → World → Prop} {rs : List ResultVar} {us : List Value} (hr : fn.results = rs.toArray) (h : RVs n P w0 O E rs us) (h2 : us.length ≠ 1) (hk : ∀ w, Hp w0 O w → R (.tuple us.toArray) w) : VE n w0 O E (Ends P fn R) .ret := by
  intro a w ha hw
  obtain ⟨vs, h1, h3⟩ := run_results hr h ha hw
  have hl : ¬ vs.toArray.size = 1 := by rw [← h3] at h2; simpa using h2
  rw [dif_neg hl] at h1
  refine bodyPost_ret h1 ha.defers ⟨_, rfl, ?_⟩
  have := hk w hw
  rw [← h3] at this
  simpa [cn] using this
end
end Go.Proofs.Ytnommdpgmoljcaa


namespace Go.Proofs.Ytnommdpgmoljcaa
open Go.RowKit Go.ChangeShapes Go.WideShapes Go.Deep

section
variable {H : Type} {enc : TypeId × Value → H} {P : Program} {w : World} {base : Nat} {spare : Nat → Bool} {held : Bool}

/-- A struct's field, by its cells. -/
theorem trod_field {t : TypeId} {fs : Array Field} {fuel : Nat} {cs : List Value} {x : DataW H × List MemPlace} (ht : P.underlying t = some (.struct fs)) (h : DataW.trod enc P w base spare held fuel t cs = some x) :
    cs.length = P.cellsOf t ∧ ∀ (i : Nat) (fd : Field), fs[i]? = some fd → ∃ y n, DataW.trod enc P w base spare held n fd.type ((cs.drop fd.offset).take (P.cellsOf fd.type)) = some y := by
  obtain ⟨xs, n, _, rfl, hl, hlen, hf⟩ := DataW.trod_struct ht h
  refine ⟨hl, fun i fd hi => ?_⟩
  have h1 := hf i fd hi
  have hlt : i < xs.length := by
    have := (Array.getElem?_eq_some_iff.1 hi).1
    omega
  rw [List.getElem?_eq_getElem hlt] at h1
  exact ⟨_, n, h1⟩
end
end Go.Proofs.Ytnommdpgmoljcaa


namespace Go.Proofs.Ytnommdpgmoljcaa
open Go.RowKit
namespace Dr

/-- What an operation makes whatever is there: by its place in the region. -/
abbrev Tab := List (Nat × ((Nat → Value) × (Nat → Ent)))
def Tab.get : Tab → Nat → (Nat → Value) × (Nat → Ent)
  | [], _ => (fun _ => undef, fun _ => ⟨none, [], 0, 0⟩)
  | (j, p) :: l, i => match Nat.beq j i with | true => p | false => Tab.get l i

section
variable {P : Program} {n : Nat} {w0 : World} {O R : List Ent} {T : Tab} {E : Env} {ops : Array Oper}

/-- Something new is made, whatever is there. -/
def YA (P : Program) (E : Env) (o : Oper) (u : Nat → Value) (e : Nat → Ent) : Prop :=
  ∀ ρ w, Ev E o.op ρ → ResOk P (fun v w' => ∃ b, cn v = u b ∧ Below w.heap.size w w' ∧ Ent.at w.heap.size w' (e b)) ((execOp ρ o).run P w)
theorem YA.of {o : Oper} {u : Nat → Value} {e : Nat → Ent} (h : ∀ w0, YN P w0 [] E o u (fun b => [e b])) : YA P E o u e := by
  intro ρ w hE
  refine (h w ρ w hE (Hp.refl w)).mono fun v w' ⟨b, h1, h2, h3, _⟩ => ⟨b, h1, h2, h3 _ List.mem_cons_self⟩
theorem YA.weaken {E' : Env} {o : Oper} {u : Nat → Value} {e : Nat → Ent} (h : YA P E o u e) (hE : ∀ x ∈ o.op.operands, E'.opd x = E.opd x) : YA P E' o u e :=
  fun ρ w hρ => h ρ w (fun x hx u hu => hρ x hx u (by rw [hE x hx]; exact hu))

/-- What an operation does: a value and what is owned then, for some x. -/
inductive Eff (P : Program) (w0 : World) (ops : Array Oper) (R : List Ent) : Kd → Oper → Env → List Ent → (X : Type) → (X → Value) → (X → List Ent) → Prop
  | skip {k : Kd} {o : Oper} {E : Env} {O : List Ent} : Guard ops E o false → Eff P w0 ops R k o E O Unit (fun _ => undef) (fun _ => O)
  | quiet {o : Oper} {E : Env} {O : List Ent} {u : Value} : Guard ops E o true → YQ P w0 (O ++ R) E o u → Eff P w0 ops R 0 o E O Unit (fun _ => u) (fun _ => O)
  | quietR {o : Oper} {E : Env} {O : List Ent} {u : Value} : Guard ops E o true → YQ P w0 R E o u → Eff P w0 ops R 5 o E O Unit (fun _ => u) (fun _ => O)
  | make {o : Oper} {E : Env} {O : List Ent} {X : Type} {u : X → Value} {N : X → List Ent} : Guard ops E o true → YN P w0 (O ++ R) E o u N → Eff P w0 ops R 1 o E O X u (fun x => N x ++ O)
  | turn {o : Oper} {E : Env} {O : List Ent} {X : Type} {u : X → Value} {O' : X → List Ent} : Guard ops E o true → YC P w0 (O ++ R) E o u (fun x => O' x ++ R) → Eff P w0 ops R 3 o E O X u O'

/-- One operation, and K behind it. -/
def Stp (P : Program) (n : Nat) (w0 : World) (ops : Array Oper) (T : Tab) (k : Kd) (i : Nat) (o : Oper) (E : Env) (O R : List Ent) (K : Env → List Ent → List Ent → Prop) : Prop :=
  if k = 2 then o.guard = none ∧ DOk n o ∧ YA P E o (T.get i).1 (T.get i).2 ∧ ∀ b, K (putE E o.dst ((T.get i).1 b)) ((T.get i).2 b :: O) R
  else if k = 4 then ∃ (X : Type) (u : X → Value) (O' : X → List Ent), Nonempty X ∧ Guard ops E o true ∧ YC P w0 (O ++ R) E o u O' ∧ DOk n o ∧ ∀ x, K (putE E o.dst (u x)) (O' x) []
  else ∃ (X : Type) (u : X → Value) (O' : X → List Ent), Nonempty X ∧ Eff P w0 ops R k o E O X u O' ∧ DOk n o ∧ ∀ x, K (putE E o.dst (u x)) (O' x) R

/-- The walk: the operations of π in this order. -/
def SW (P : Program) (n : Nat) (w0 : World) (ops : Array Oper) (T : Tab) (K : Env → List Ent → List Ent → Prop) : List (Nat × Kd) → Env → List Ent → List Ent → Prop
  | [], E, O, R => K E O R
  | (i, k) :: π, E, O, R => ∃ o, ops[i]? = some o ∧ Stp P n w0 ops T k i o E O R (SW P n w0 ops T K π)

/-- K does not look at the order of what is known. -/
def Lax3 (w0 : World) (K : Env → List Ent → List Ent → Prop) : Prop :=
  ∀ E E' O O' R, (∀ t, E'.get t = E.get t) → (∀ F w, Hp w0 (F ++ O') w → Hp w0 (F ++ O) w) → K E O R → K E' O' R

theorem frame {O' : List Ent} (h : ∀ F w, Hp w0 (F ++ O') w → Hp w0 (F ++ O) w) : ∀ F w, Hp w0 (F ++ (O' ++ R)) w → Hp w0 (F ++ (O ++ R)) w := by
  intro F w hw
  have h1 : (F ++ (O' ++ R)).Perm ((F ++ R) ++ O') := by
    rw [List.append_assoc]
    exact List.Perm.append_left F List.perm_append_comm
  have h2 : ((F ++ R) ++ O).Perm (F ++ (O ++ R)) := by
    rw [List.append_assoc]
    exact List.Perm.append_left F List.perm_append_comm
  exact (h (F ++ R) w (hw.perm' h1)).perm' h2

/-- The effect, seen from what says the same. -/
theorem Eff.lax {E' : Env} {O' : List Ent} {k : Kd} {o : Oper} {X : Type} {u : X → Value} {S : X → List Ent} (hE : ∀ t, E'.get t = E.get t) (hO : ∀ F w, Hp w0 (F ++ O') w → Hp w0 (F ++ O) w) (h : Eff P w0 ops R k o E O X u S) :
    ∃ S', Eff P w0 ops R k o E' O' X u S' ∧ ∀ x F w, Hp w0 (F ++ S' x) w → Hp w0 (F ++ S x) w := by
  have hop := opd_same hE
  cases h with
  | skip hg => exact ⟨_, .skip (hg.same fun t _ => hE t), fun _ => hO⟩
  | quiet hg h => exact ⟨_, .quiet (hg.same fun t _ => hE t) (h.weaken (fun x _ => hop x) (hp_nil (frame hO))), fun _ => hO⟩
  | quietR hg h => exact ⟨_, .quietR (hg.same fun t _ => hE t) (h.weaken (fun x _ => hop x) (fun _ h => h)), fun _ => hO⟩
  | make hg h => exact ⟨_, .make (hg.same fun t _ => hE t) (h.weaken (fun x _ => hop x) (hp_nil (frame hO))), fun x => Hp.perm hO⟩
  | turn hg h => exact ⟨_, .turn (hg.same fun t _ => hE t) (fun ρ w F hρ hw => h ρ w F (fun x hx u hu => hρ x hx u (by rw [hop x]; exact hu)) (frame hO F w hw)), fun _ _ _ h => h⟩

theorem Stp.lax {k : Kd} {i : Nat} {o : Oper} {K : Env → List Ent → List Ent → Prop} (hK : Lax3 w0 K) : Lax3 w0 (fun E O R => Stp P n w0 ops T k i o E O R K) := by
  intro E E' O O' R hE hO h
  simp only [Stp] at h ⊢
  split at h
  · rename_i hk
    rw [if_pos hk]
    exact ⟨h.1, h.2.1, h.2.2.1.weaken (fun x _ => opd_same hE x), fun b => hK _ _ _ _ _ (put_congr hE _ _) (fun F w => by simpa using Hp.perm (N := [(T.get i).2 b]) hO F w) (h.2.2.2 b)⟩
  · rename_i hk
    rw [if_neg hk]
    split at h
    · rename_i hk4
      rw [if_pos hk4]
      obtain ⟨X, u, S, h0, hg, h1, h2, h3⟩ := h
      exact ⟨X, u, S, h0, hg.same fun t _ => hE t, fun ρ w F hρ hw => h1 ρ w F (fun x hx u hu => hρ x hx u (by rw [opd_same hE x]; exact hu)) (frame hO F w hw), h2, fun x => hK _ _ _ _ _ (put_congr hE _ _) (fun _ _ h => h) (h3 x)⟩
    · rename_i hk4
      rw [if_neg hk4]
      obtain ⟨X, u, S, h0, h1, h2, h3⟩ := h
      obtain ⟨S', h4, h5⟩ := h1.lax hE hO
      exact ⟨X, u, S', h0, h4, h2, fun x => hK _ _ _ _ _ (put_congr hE _ _) (h5 x) (h3 x)⟩

theorem SW.lax {K : Env → List Ent → List Ent → Prop} (hK : Lax3 w0 K) : ∀ π, Lax3 w0 (SW P n w0 ops T K π)
  | [] => hK
  | (i, k) :: π => by
    intro E E' O O' R hE hO ⟨o, ho, h⟩
    exact ⟨o, ho, Stp.lax (SW.lax hK π) _ _ _ _ _ hE hO h⟩

/-- p is walked before q; may q be carried out before p? -/
def swapOk (ops : Array Oper) (kp kq : Kd) (p q : Oper) : Bool :=
  (match p.dst with | some d => !(q.looksAt ops).contains d && q.dst != some d | none => true) &&
  (match q.dst with | some d => !(p.looksAt ops).contains d | none => true) &&
  ((kp == 0 && (kq == 0 || kq == 1 || kq == 5)) || (kp == 5 && (kq == 0 || kq == 1 || kq == 3 || kq == 5)) || (kq == 2 && kp != 4))

theorem Eff.put {k : Kd} {o : Oper} {d : Option Nat} {u : Value} {X : Type} {v : X → Value} {S : X → List Ent} (h : ∀ x, d = some x → (o.looksAt ops).contains x = false) :
    Eff P w0 ops R k o (putE E d u) O X v S ↔ Eff P w0 ops R k o E O X v S := by
  constructor
  · intro he
    cases he with
    | skip hg => exact .skip ((guard_put h).1 hg)
    | quiet hg hy => exact .quiet ((guard_put h).1 hg) (hy.weaken (fun x hx => (opd_put h u x hx).symm) fun _ h => h)
    | quietR hg hy => exact .quietR ((guard_put h).1 hg) (hy.weaken (fun x hx => (opd_put h u x hx).symm) fun _ h => h)
    | make hg hy => exact .make ((guard_put h).1 hg) (hy.weaken (fun x hx => (opd_put h u x hx).symm) fun _ h => h)
    | turn hg hy => exact .turn ((guard_put h).1 hg) (fun ρ w F hρ hw => hy ρ w F (fun x hx v hv => hρ x hx v (by rw [← opd_put h u x hx]; exact hv)) hw)
  · intro he
    cases he with
    | skip hg => exact .skip ((guard_put h).2 hg)
    | quiet hg hy => exact .quiet ((guard_put h).2 hg) (hy.weaken (fun x hx => opd_put h u x hx) fun _ h => h)
    | quietR hg hy => exact .quietR ((guard_put h).2 hg) (hy.weaken (fun x hx => opd_put h u x hx) fun _ h => h)
    | make hg hy => exact .make ((guard_put h).2 hg) (hy.weaken (fun x hx => opd_put h u x hx) fun _ h => h)
    | turn hg hy => exact .turn ((guard_put h).2 hg) (fun ρ w F hρ hw => hy ρ w F (fun x hx v hv => hρ x hx v (by rw [opd_put h u x hx]; exact hv)) hw)

/-- .. with one entry more -/
theorem Eff.beside {k : Kd} {o : Oper} {e : Ent} {X : Type} {v : X → Value} {S : X → List Ent} (he : Eff P w0 ops R k o E O X v S) :
    ∃ S', Eff P w0 ops R k o E (e :: O) X v S' ∧ ∀ x F w, Hp w0 (F ++ S' x) w → Hp w0 (F ++ (e :: S x)) w := by
  have hsub : ∀ w, Hp w0 (e :: O ++ R) w → Hp w0 (O ++ R) w := fun w h => h.sub (List.sublist_cons_self e (O ++ R))
  cases he with
  | skip hg => exact ⟨_, .skip hg, fun _ _ _ h => h⟩
  | quiet hg hy => exact ⟨_, .quiet hg (hy.weaken (fun _ _ => rfl) hsub), fun _ _ _ h => h⟩
  | quietR hg hy => exact ⟨_, .quietR hg hy, fun _ _ _ h => h⟩
  | make hg hy =>
    exact ⟨_, .make hg (hy.weaken (fun _ _ => rfl) hsub), fun x F w h => swap_hp (N := _) (M := [e]) F w h⟩
  | turn hg hy =>
    refine ⟨fun x => e :: S x, .turn hg fun ρ w F hρ hw => ?_, fun _ _ _ h => h⟩
    have := hy ρ w (F ++ [e]) hρ (by simpa using hw)
    refine this.mono fun v w' ⟨x, h1, h2⟩ => ⟨x, h1, by simpa using h2⟩

theorem Stp.swap {kp kq : Kd} {ip iq : Nat} {p q : Oper} {K : Env → List Ent → List Ent → Prop} (hK : Lax3 w0 K) (hs : swapOk ops kp kq p q = true)
    (h : Stp P n w0 ops T kp ip p E O R (fun E O R => Stp P n w0 ops T kq iq q E O R K)) : Stp P n w0 ops T kq iq q E O R (fun E O R => Stp P n w0 ops T kp ip p E O R K) := by
  simp only [swapOk, Bool.and_eq_true, Bool.or_eq_true, beq_iff_eq, bne_iff_ne, ne_eq] at hs
  obtain ⟨⟨hs1, hs2⟩, hs3⟩ := hs
  have d1 : ∀ d, p.dst = some d → (q.looksAt ops).contains d = false := fun d hd => by rw [hd] at hs1; simpa using (Bool.and_eq_true_iff.1 hs1).1
  have d2 : ∀ d, p.dst = some d → q.dst ≠ some d := fun d hd => by rw [hd] at hs1; simpa using (Bool.and_eq_true_iff.1 hs1).2
  have d3 : ∀ d, q.dst = some d → (p.looksAt ops).contains d = false := fun d hd => by rw [hd] at hs2; simpa using hs2
  have hid : ∀ (O : List Ent) (F : List Ent) (w : World), Hp w0 (F ++ O) w → Hp w0 (F ++ O) w := fun _ _ _ h => h
  have hp4 : ¬ kp = 4 := by
    rcases hs3 with (⟨h1, _⟩ | ⟨h1, _⟩) | ⟨_, h2⟩
    · rw [h1]; decide
    · rw [h1]; decide
    · exact h2
  by_cases hq : kq = 2
  · subst hq
    simp only [Stp, if_true, if_neg hp4] at h ⊢
    split at h
    · rename_i hp
      have h0 := (h.2.2.2 0)
      refine ⟨h0.1, h0.2.1, h0.2.2.1.weaken (fun x hx => (opd_put d1 _ x hx).symm), fun b => ?_⟩
      rw [if_pos hp]
      refine ⟨h.1, h.2.1, h.2.2.1.weaken (fun x hx => opd_put d3 _ x hx), fun c => ?_⟩
      have h3 := (h.2.2.2 c).2.2.2 b
      refine hK _ _ _ _ _ (fun t => (put_swap d2 _ _ E t).symm) (fun F w hw => ?_) h3
      have := swap_hp (N := [(T.get ip).2 c]) (M := [(T.get iq).2 b]) (O := O) F w (by simpa using hw)
      simpa using this
    · rename_i hp
      obtain ⟨X, u, S, ⟨x0⟩, h1, h2, h3⟩ := h
      have h0 := h3 x0
      refine ⟨h0.1, h0.2.1, h0.2.2.1.weaken (fun x hx => (opd_put d1 _ x hx).symm), fun b => ?_⟩
      rw [if_neg hp]
      obtain ⟨S', h4, h5⟩ := h1.beside (e := (T.get iq).2 b)
      refine ⟨X, u, S', ⟨x0⟩, (Eff.put d3).2 h4, h2, fun x => ?_⟩
      exact hK _ _ _ _ _ (fun t => (put_swap d2 _ _ E t).symm) (h5 x) ((h3 x).2.2.2 b)
  · have h0 : (kp = 0 ∧ (kq = 0 ∨ kq = 1 ∨ kq = 5)) ∨ (kp = 5 ∧ (kq = 0 ∨ kq = 1 ∨ kq = 3 ∨ kq = 5)) := by
      rcases hs3 with (⟨h1, (h2 | h2) | h2⟩ | ⟨h1, ((h2 | h2) | h2) | h2⟩) | h2
      · exact .inl ⟨h1, .inl h2⟩
      · exact .inl ⟨h1, .inr (.inl h2)⟩
      · exact .inl ⟨h1, .inr (.inr h2)⟩
      · exact .inr ⟨h1, .inl h2⟩
      · exact .inr ⟨h1, .inr (.inl h2)⟩
      · exact .inr ⟨h1, .inr (.inr (.inl h2))⟩
      · exact .inr ⟨h1, .inr (.inr (.inr h2))⟩
      · exact absurd h2.1 hq
    have hp2 : ¬ kp = 2 := by rcases h0 with ⟨h, _⟩ | ⟨h, _⟩ <;> rw [h] <;> decide
    have hq4 : ¬ kq = 4 := by rcases h0 with ⟨_, h | h | h⟩ | ⟨_, h | h | h | h⟩ <;> rw [h] <;> decide
    simp only [Stp, if_neg hq, if_neg hp2, if_neg hp4, if_neg hq4] at h ⊢
    obtain ⟨X, u, S0, hX, h1, h2, h3⟩ := h
    -- the first is quiet, or does not come to its turn
    obtain ⟨u0, hu0, hp⟩ : ∃ u0, (∃ Y v S, Nonempty Y ∧ Eff P w0 ops R kq q (putE E p.dst u0) O Y v S ∧ DOk n q ∧ ∀ y, K (putE (putE E p.dst u0) q.dst (v y)) (S y) R) ∧
        ∀ E' O', (∀ x ∈ p.op.operands, E'.opd x = E.opd x) → (∀ g, Guard ops E p g → Guard ops E' p g) → (kp = 0 → ∀ w, Hp w0 (O' ++ R) w → Hp w0 (O ++ R) w) → Eff P w0 ops R kp p E' O' Unit (fun _ => u0) (fun _ => O') := by
      rcases h0 with ⟨rfl, _⟩ | ⟨rfl, _⟩
      · cases h1 with
        | skip hg => exact ⟨undef, h3 (), fun E' O' _ hg' _ => .skip (hg' _ hg)⟩
        | quiet hg hy => exact ⟨_, h3 (), fun E' O' hE hg' hO => .quiet (hg' _ hg) (hy.weaken hE (hO rfl))⟩
      · cases h1 with
        | skip hg => exact ⟨undef, h3 (), fun E' O' _ hg' _ => .skip (hg' _ hg)⟩
        | quietR hg hy => exact ⟨_, h3 (), fun E' O' hE hg' _ => .quietR (hg' _ hg) (hy.weaken hE fun _ h => h)⟩
    obtain ⟨Y, v, S, g0, g1, g2, g3⟩ := hu0
    have g1' := (Eff.put d1).1 g1
    refine ⟨Y, v, S, g0, g1', g2, fun y => ?_⟩
    have hsub : kp = 0 → ∀ w, Hp w0 (S y ++ R) w → Hp w0 (O ++ R) w := fun hk0 => by
      have hk : kq = 0 ∨ kq = 1 ∨ kq = 5 := by
        rcases h0 with ⟨_, h⟩ | ⟨h, _⟩
        · exact h
        · rw [hk0] at h; exact absurd h (by decide)
      cases g1' with
      | skip _ => exact fun _ h => h
      | quiet _ _ => exact fun _ h => h
      | quietR _ _ => exact fun _ h => h
      | make _ _ => exact fun w h => h.sub (by rw [List.append_assoc]; exact List.sublist_append_right _ _)
      | turn _ _ => rcases hk with h | h | h <;> exact absurd h (by decide)
    exact ⟨Unit, fun _ => u0, fun _ => S y, ⟨()⟩, hp _ _ (opd_put d3 _) (fun g hg => (guard_put d3).2 hg) hsub, h2, fun _ => hK _ _ _ _ _ (fun t => (put_swap d2 _ _ E t).symm) (hid _) (g3 y)⟩

/-! ### the order that is drawn -/
/-- Of any two that are walked in this order the second waits for the first, directly, or they may change places. -/
def pairsOk (ops : Array Oper) : List (Nat × Kd) → Bool
  | [] => true
  | (i, k) :: π => (π.all fun (j, kj) => match ops[i]?, ops[j]? with
    | some p, some q => Go.Proofs.Ytnommdpgmoljcaa.pairsOk.reach ops j i || swapOk ops k kj p q
    | _, _ => false) && pairsOk ops π

theorem pairsOk_mid {i : Nat} {k : Kd} : ∀ (A B : List (Nat × Kd)), pairsOk ops (A ++ (i, k) :: B) = true →
    (∀ j kj, (j, kj) ∈ A → ∃ p q, ops[j]? = some p ∧ ops[i]? = some q ∧ (Go.Proofs.Ytnommdpgmoljcaa.pairsOk.reach ops i j = true ∨ swapOk ops kj k p q = true)) ∧ pairsOk ops (A ++ B) = true
  | [], B, h => by
    simp only [List.nil_append, pairsOk, Bool.and_eq_true] at h
    exact ⟨fun _ _ h => by (cases h), h.2⟩
  | (j, kj) :: A, B, h => by
    simp only [List.cons_append, pairsOk, Bool.and_eq_true, List.all_eq_true] at h ⊢
    obtain ⟨h1, h2⟩ := h
    obtain ⟨g1, g2⟩ := pairsOk_mid A B h2
    refine ⟨fun j' kj' hj => ?_, fun x hx => h1 x ?_, g2⟩
    · rcases List.mem_cons.1 hj with hj | hj
      · cases hj
        have := h1 (i, k) (by simp)
        dsimp only at this
        cases hp : ops[j]? with
        | none => rw [hp] at this; simp at this
        | some p =>
          cases hq : ops[i]? with
          | none => rw [hp, hq] at this; simp at this
          | some q =>
            rw [hp, hq] at this
            exact ⟨p, q, rfl, rfl, by simpa using this⟩
      · exact g1 j' kj' hj
    · rcases List.mem_append.1 hx with hx | hx
      · exact List.mem_append.2 (.inl hx)
      · exact List.mem_append.2 (.inr (List.mem_cons_of_mem _ hx))


theorem SW.front {K : Env → List Ent → List Ent → Prop} (hK : Lax3 w0 K) {i : Nat} {k : Kd} {q : Oper} (hq : ops[i]? = some q) : ∀ (A B : List (Nat × Kd)) (E : Env) (O R : List Ent),
    (∀ j kj, (j, kj) ∈ A → ∃ p, ops[j]? = some p ∧ swapOk ops kj k p q = true) → SW P n w0 ops T K (A ++ (i, k) :: B) E O R → SW P n w0 ops T K ((i, k) :: (A ++ B)) E O R
  | [], _, _, _, _, _, h => h
  | (j, kj) :: A, B, E, O, R, hs, h => by
    obtain ⟨p, hp, h⟩ := h
    obtain ⟨p', hp', hsw⟩ := hs j kj List.mem_cons_self
    obtain rfl : p = p' := Option.some.inj (hp.symm.trans hp')
    have h2 : Stp P n w0 ops T kj j p E O R (fun E O R => Stp P n w0 ops T k i q E O R (SW P n w0 ops T K (A ++ B))) := by
      have ih := fun E O R => SW.front hK hq A B E O R (fun j kj hj => hs j kj (List.mem_cons_of_mem _ hj))
      have key : ∀ E O R, SW P n w0 ops T K (A ++ (i, k) :: B) E O R → Stp P n w0 ops T k i q E O R (SW P n w0 ops T K (A ++ B)) := fun E O R h => by
        obtain ⟨q', hq', h'⟩ := ih E O R h
        obtain rfl : q = q' := Option.some.inj (hq.symm.trans hq')
        exact h'
      simp only [Stp] at h ⊢
      split at h
      · rename_i hk; rw [if_pos hk]; exact ⟨h.1, h.2.1, h.2.2.1, fun b => key _ _ _ (h.2.2.2 b)⟩
      · rename_i hk; rw [if_neg hk]
        split at h
        · rename_i hk4; rw [if_pos hk4]
          obtain ⟨X, u, R, h0, h1, h2, h3, h4⟩ := h
          exact ⟨X, u, R, h0, h1, h2, h3, fun x => key _ _ _ (h4 x)⟩
        · rename_i hk4; rw [if_neg hk4]
          obtain ⟨X, u, R, h0, h1, h2, h3⟩ := h
          exact ⟨X, u, R, h0, h1, h2, fun x => key _ _ _ (h3 x)⟩
    have h3 := Stp.swap (SW.lax hK (A ++ B)) hsw h2
    refine ⟨q, hq, ?_⟩
    simp only [Stp] at h3 ⊢
    split at h3
    · rename_i hk; rw [if_pos hk]; exact ⟨h3.1, h3.2.1, h3.2.2.1, fun b => ⟨p, hp, h3.2.2.2 b⟩⟩
    · rename_i hk; rw [if_neg hk]
      split at h3
      · rename_i hk4; rw [if_pos hk4]
        obtain ⟨X, u, R, h0, h1, h2, h3, h4⟩ := h3
        exact ⟨X, u, R, h0, h1, h2, h3, fun x => ⟨p, hp, h4 x⟩⟩
      · rename_i hk4; rw [if_neg hk4]
        obtain ⟨X, u, R, h0, h1, h2, h4⟩ := h3
        exact ⟨X, u, R, h0, h1, h2, fun x => ⟨p, hp, h4 x⟩⟩

theorem Stp.wpOp {k : Kd} {o : Oper} {i : Nat} {Q : Exit → Act → World → Prop} {K : Env → List Ent → List Ent → Prop} {S : Act → World → Prop} (ho : ops[i]? = some o) (h : Stp P n w0 ops T k i o E O R K) (hR : ∀ E' O' R', K E' O' R' → VX n w0 (O' ++ R') E' S) {a : Act} {w : World} (ha : Models n E a) (hw : Hp w0 (O ++ R) w) : Go.wpOp P ops Q i S a w := by
  unfold Go.wpOp
  simp only [ho]
  simp only [Stp] at h
  split at h
  · obtain ⟨hg, hd, hA, h⟩ := h
    rw [if_pos (by simp [Region.wanted, hg])]
    refine .inl ?_
    unfold Oper.wp
    refine (hA a.eval w (ha.ev _)).upon fun v w' ⟨b, h1, h2, h3⟩ => ?_
    exact hR _ _ _ (h b) _ _ (models_put ha hd h1) (hw.new h2 h3)
  split at h
  · obtain ⟨X, u, R', _, hg, hy, hd, h3⟩ := h
    rw [if_pos (hg.wanted ha)]
    refine .inl ?_
    unfold Oper.wp
    refine (hy a.eval w [] (ha.ev _) (by simpa using hw)).upon fun v w' ⟨x, h1, h2⟩ => ?_
    exact hR _ _ _ (h3 x) _ _ (models_put ha hd h1) (by simpa using h2)
  · obtain ⟨X, u, R', _, h1, hd, h3⟩ := h
    cases h1 with
    | skip hg =>
      rw [if_neg (by rw [hg.wanted ha]; decide)]
      exact hR _ _ _ (h3 ()) _ _ (models_put ha hd (by simp [undef, cn])) hw
    | quiet hg hy =>
      rw [if_pos (hg.wanted ha)]
      refine .inl ?_
      unfold Oper.wp
      refine (hy a.eval w (ha.ev _) hw).upon fun v w' ⟨h1, h2⟩ => ?_
      exact hR _ _ _ (h3 ()) _ _ (models_put ha hd h1) (hw.ext h2)
    | quietR hg hy =>
      rw [if_pos (hg.wanted ha)]
      refine .inl ?_
      unfold Oper.wp
      refine (hy a.eval w (ha.ev _) (hw.sub (List.sublist_append_right _ _))).upon fun v w' ⟨h1, h2⟩ => ?_
      exact hR _ _ _ (h3 ()) _ _ (models_put ha hd h1) (hw.ext h2)
    | make hg hy =>
      rw [if_pos (hg.wanted ha)]
      refine .inl ?_
      unfold Oper.wp
      refine (hy a.eval w (ha.ev _) hw).upon fun v w' ⟨x, h1, h2, h4, h5⟩ => ?_
      exact hR _ _ _ (h3 x) _ _ (models_put ha hd h1) (by rw [List.append_assoc]; exact hw.news h2 h4 h5)
    | turn hg hy =>
      rw [if_pos (hg.wanted ha)]
      refine .inl ?_
      unfold Oper.wp
      refine (hy a.eval w [] (ha.ev _) (by simpa using hw)).upon fun v w' ⟨x, h1, h2⟩ => ?_
      exact hR _ _ _ (h3 x) _ _ (models_put ha hd h1) (by simpa using h2)

theorem any_of_walk {Q : Exit → Act → World → Prop} {K : Env → List Ent → List Ent → Prop} (hK : Lax3 w0 K) (hQ : ∀ E O R, K E O R → VX n w0 (O ++ R) E (Q .normal)) (hback : backOk ops = true) :
    ∀ (fuel : Nat) (π : List (Nat × Kd)) (listed : Array Bool) (E : Env) (O R : List Ent) (a : Act) (w : World), π.length ≤ fuel → listed.size = ops.size → (∀ j, j < ops.size → (listed.getD j true = false ↔ ∃ k, (j, k) ∈ π)) → (π.map (·.1)).Nodup →
      (∀ j o, ops[j]? = some o → listed.getD j false = true → ∀ e ∈ o.after, Region.binds .any e = true → listed.getD e.on false = true) → pairsOk ops π = true → SW P n w0 ops T K π E O R → Models n E a → Hp w0 (O ++ R) w → wpAny P .any ops Q fuel listed a w := by
  have hnone : ∀ (π : List (Nat × Kd)) (listed : Array Bool) (E : Env) (O R : List Ent) (a : Act) (w : World), listed.size = ops.size → (∀ j, j < ops.size → (listed.getD j true = false ↔ ∃ k, (j, k) ∈ π)) → Region.ready .any ops listed = [] → SW P n w0 ops T K π E O R → (∀ j k, (j, k) ∈ π → j < ops.size) → Models n E a → Hp w0 (O ++ R) w → Q .normal a w := by
    intro π listed E O R a w hsz hl hr hS hlt ha hw
    have hnil : π = [] := by
      apply Classical.byContradiction
      intro hne
      -- the least index that is not listed could come up
      have hex : ∃ j, j < ops.size ∧ listed.getD j true = false := by
        cases π with
        | nil => exact absurd rfl hne
        | cons x π => obtain ⟨j, k⟩ := x; exact ⟨j, hlt j k List.mem_cons_self, (hl j (hlt j k List.mem_cons_self)).2 ⟨k, List.mem_cons_self⟩⟩
      have hmin : ∀ m, (∃ j, j ≤ m ∧ j < ops.size ∧ listed.getD j true = false) → ∃ j, j < ops.size ∧ listed.getD j true = false ∧ ∀ i, i < j → listed.getD i true = true := by
        intro m
        induction m with
        | zero => rintro ⟨j, hj, h1, h2⟩; exact ⟨j, h1, h2, fun i hi => by omega⟩
        | succ m ih =>
          rintro ⟨j, hj, h1, h2⟩
          by_cases h : ∃ j, j ≤ m ∧ j < ops.size ∧ listed.getD j true = false
          · exact ih h
          · refine ⟨j, h1, h2, fun i hi => ?_⟩
            cases hi' : listed.getD i true with
            | true => rfl
            | false => exact absurd ⟨i, by omega, by omega, hi'⟩ h
      obtain ⟨j, hj⟩ := hex
      obtain ⟨j, h1, h2, h3⟩ := hmin j ⟨j, Nat.le_refl _, hj⟩
      have hmem : j ∈ Region.ready .any ops listed := by
        refine mem_ready.2 ⟨h2, ops[j], Array.getElem?_eq_getElem h1, fun e he hb => ?_⟩
        have hb' := List.all_eq_true.1 hback j (List.mem_range.2 h1)
        rw [Array.getElem?_eq_getElem h1] at hb'
        have hlt' := Array.all_eq_true'.1 hb' e he
        simp only [hb, Bool.not_true, Bool.false_or, decide_eq_true_eq] at hlt'
        have := h3 e.on hlt'
        have hs : e.on < listed.size := by omega
        simpa [hs] using this
      rw [hr] at hmem
      cases hmem
    subst hnil
    exact hQ E O R hS a w ha hw
  intro fuel
  induction fuel with
  | zero =>
    intro π listed E O R a w hf hsz hl _ _ _ hS ha hw
    have hnil : π = [] := List.eq_nil_of_length_eq_zero (by omega)
    subst hnil
    refine ⟨?_, hQ E O R hS a w ha hw⟩
    apply List.eq_nil_iff_forall_not_mem.2
    intro i hi
    obtain ⟨h1, o, h2, _⟩ := mem_ready.1 hi
    obtain ⟨k, hk⟩ := (hl i (Array.getElem?_eq_some_iff.1 h2).1).1 h1
    cases hk
  | succ fuel ih =>
    intro π listed E O R a w hf hsz hl hnd hcl hp hS ha hw
    refine ⟨fun hr => ?_, fun i hi => ?_⟩
    · -- nothing may come up
      refine hnone π listed E O R a w hsz hl hr hS (fun j k hj => ?_) ha hw
      -- an index of π is one of the region's
      have : ∀ (π : List (Nat × Kd)), pairsOk ops π = true → 2 ≤ π.length → ∀ j k, (j, k) ∈ π → j < ops.size := by
        intro π hp h2 j k hj
        obtain ⟨A, B, rfl⟩ := List.append_of_mem hj
        cases A with
        | nil =>
          cases B with
          | nil => simp at h2
          | cons y B =>
            simp only [List.nil_append, pairsOk, Bool.and_eq_true, List.all_eq_true] at hp
            have := hp.1 y List.mem_cons_self
            obtain ⟨y1, y2⟩ := y
            dsimp only at this
            cases hj' : ops[j]? with
            | none => rw [hj'] at this; simp at this
            | some o => exact (Array.getElem?_eq_some_iff.1 hj').1
        | cons x A =>
          obtain ⟨x1, x2⟩ := x
          obtain ⟨g, _⟩ := pairsOk_mid ((x1, x2) :: A) B hp
          obtain ⟨p, q, _, hq, _⟩ := g x1 x2 List.mem_cons_self
          exact (Array.getElem?_eq_some_iff.1 hq).1
      by_cases h2 : 2 ≤ π.length
      · exact this π hp h2 j k hj
      · cases π with
        | nil => cases hj
        | cons x π =>
          have : π = [] := List.eq_nil_of_length_eq_zero (by simp only [List.length_cons] at h2; omega)
          subst this
          simp only [List.mem_singleton] at hj
          subst hj
          obtain ⟨o, ho, _⟩ := hS
          exact (Array.getElem?_eq_some_iff.1 ho).1
    · obtain ⟨h1, o, h2, h3⟩ := mem_ready.1 hi
      have hlt := (Array.getElem?_eq_some_iff.1 h2).1
      obtain ⟨k, hk⟩ := (hl i hlt).1 h1
      obtain ⟨A, B, rfl⟩ := List.append_of_mem hk
      obtain ⟨g1, g2⟩ := pairsOk_mid A B hp
      have hnot : ∀ j kj, (j, kj) ∈ A → listed.getD j false = false := fun j kj hj => by
        obtain ⟨p, q, hp', _⟩ := g1 j kj hj
        have := (hl j (Array.getElem?_eq_some_iff.1 hp').1).2 ⟨kj, List.mem_append.2 (.inl hj)⟩
        exact getDb this
      have hsw : ∀ j kj, (j, kj) ∈ A → ∃ p, ops[j]? = some p ∧ swapOk ops kj k p o = true := fun j kj hj => by
        obtain ⟨p, q, hp', hq', h⟩ := g1 j kj hj
        obtain rfl : o = q := Option.some.inj (h2.symm.trans hq')
        rcases h with h | h
        · have := reach_listed hcl ops.size [i] j (fun j' hj' o' ho' e he hb => by
            simp only [List.mem_singleton] at hj'
            subst hj'
            obtain rfl : o = o' := Option.some.inj (h2.symm.trans ho')
            exact h3 e he hb) h
          rw [hnot j kj hj] at this
          cases this
        · exact ⟨p, hp', h⟩
      have hfront := SW.front hK h2 A B E O R hsw hS
      obtain ⟨o', ho', hst⟩ := hfront
      obtain rfl : o = o' := Option.some.inj (h2.symm.trans ho')
      have hi' : i < listed.size := by omega
      refine Stp.wpOp (ops := ops) h2 hst (fun E' O' R' hS' a' w' ha' hw' => ?_) ha hw
      refine ih (A ++ B) _ E' O' R' a' w' (by simp only [List.length_append, List.length_cons] at hf ⊢; omega) (by simpa using hsz) (fun j hj => ?_) ?_ (fun j oj hoj hlj e he hb => ?_) g2 hS' ha' hw'
      · rw [getD_set hi']
        have hndi : ∀ k', (i, k') ∉ A ++ B := by
          intro k' hk'
          simp only [List.map_append, List.map_cons] at hnd
          rw [List.nodup_append] at hnd
          obtain ⟨n1, n2, n3⟩ := hnd
          rcases List.mem_append.1 hk' with hk' | hk'
          · exact n3 i (List.mem_map_of_mem (f := (·.1)) hk') i List.mem_cons_self rfl
          · exact (List.nodup_cons.1 n2).1 (List.mem_map_of_mem (f := (·.1)) hk')
        by_cases hij : i = j
        · subst hij
          rw [if_pos rfl]
          exact ⟨fun h => by (cases h), fun ⟨k', hk'⟩ => absurd hk' (hndi k')⟩
        · rw [if_neg hij, hl j hj]
          constructor
          · rintro ⟨k', hk'⟩
            refine ⟨k', ?_⟩
            rcases List.mem_append.1 hk' with hk' | hk'
            · exact List.mem_append.2 (.inl hk')
            · rcases List.mem_cons.1 hk' with hk' | hk'
              · cases hk'; exact absurd rfl hij
              · exact List.mem_append.2 (.inr hk')
          · rintro ⟨k', hk'⟩
            refine ⟨k', ?_⟩
            rcases List.mem_append.1 hk' with hk' | hk'
            · exact List.mem_append.2 (.inl hk')
            · exact List.mem_append.2 (.inr (List.mem_cons_of_mem _ hk'))
      · simp only [List.map_append, List.map_cons] at hnd ⊢
        exact hnd.sublist (List.Sublist.append_left (List.sublist_cons_self _ _) _)
      · rw [getD_set hi'] at hlj ⊢
        split at hlj
        · rename_i hij
          subst hij
          obtain rfl : o = oj := Option.some.inj (h2.symm.trans hoj)
          rw [h3 e he hb]
          split <;> rfl
        · rw [hcl j oj hoj hlj e he hb]
          split <;> rfl


/-- **A region that draws its order, walked in the order π: S turns, R is only read.** -/
theorem V.drawR {id : Nat} {l : List Oper} {Q : Exit → Act → World → Prop} (π : List (Nat × Kd)) (T : Tab) (S R : List Ent) (hm : P.follows .mixedOrders = true) (hok : (permOk l.length π && pairsOk l.toArray π && backOk l.toArray) = true) (hO : ∀ w, Hp w0 O w → Hp w0 (S ++ R) w)
    (h : SW P n w0 l.toArray T (fun E S R => VE n w0 (S ++ R) E Q .normal) π E S R) : V P n w0 O E (.region id l.toArray true) Q := by
  intro a w ha hw
  simp only [Bool.and_eq_true] at hok
  obtain ⟨⟨h1, h2⟩, h3⟩ := hok
  obtain ⟨n1, n2⟩ := permOk_nodup h1
  refine wp_region_any hm ?_
  have hlen : π.length = l.toArray.size := by
    simp only [permOk, Bool.and_eq_true, decide_eq_true_eq] at h1
    simpa using h1.1.2
  refine any_of_walk (K := fun E S R => VE n w0 (S ++ R) E Q .normal) (fun E E' O O' R hE hO h a w ha hw => h a w (ha.mono fun t u ht => by rw [hE]; exact ht) (hp_nil (frame hO) w hw)) (fun _ _ _ h => h) h3 _ π _ E S R a _ (by omega) (by simp) (fun j hj => ?_) n1 (fun j o _ hj => ?_) h2 h ha ((hO _ hw).ext (below_drew _ _))
  · simp only [List.size_toArray] at hj
    exact ⟨fun _ => n2 j hj, fun _ => by simp [hj]⟩
  · rw [getD_replicate_false'] at hj
    cases hj
where
  getD_replicate_false' {m j : Nat} : (Array.replicate m false).getD j false = false := by
    rcases Nat.lt_or_ge j m with h | h
    · simp [h]
    · simp [h]

/-! ### steps of such a walk -/
section
variable {o : Oper} {i d : Nat} {π : List (Nat × Kd)} {K : Env → List Ent → List Ent → Prop}
theorem SW.q {u : Value} (ho : ops[i]? = some o) (hg : Wants ops E o) (hd : o.dst = some d) (hdn : d < n) (hy : YQ P w0 (O ++ R) E o u) (h : SW P n w0 ops T K π ((d, u) :: E) O R) : SW P n w0 ops T K ((i, 0) :: π) E O R :=
  ⟨o, ho, by rw [Stp, if_neg (by decide), if_neg (by decide)]; exact ⟨_, _, _, ⟨()⟩, .quiet hg.guard hy, dok hd hdn, fun _ => by rw [hd]; exact h⟩⟩
theorem SW.p {u : Value} (ho : ops[i]? = some o) (hg : Wants ops E o) (hd : o.dst = some d) (hdn : d < n) (hy : YQ P w0 R E o u) (h : SW P n w0 ops T K π ((d, u) :: E) O R) : SW P n w0 ops T K ((i, 5) :: π) E O R :=
  ⟨o, ho, by rw [Stp, if_neg (by decide), if_neg (by decide)]; exact ⟨_, _, _, ⟨()⟩, .quietR hg.guard hy, dok hd hdn, fun _ => by rw [hd]; exact h⟩⟩
theorem SW.r {u : Value} (ho : ops[i]? = some o) (hg : Wants ops E o) (hd : o.dst = some d) (hdn : d < n) (hy : YR P E o u) (h : SW P n w0 ops T K π ((d, u) :: E) O R) : SW P n w0 ops T K ((i, 5) :: π) E O R := SW.p ho hg hd hdn hy.q h
theorem SW.new {X : Type} [hX : Nonempty X] {u : X → Value} {N : X → List Ent} (ho : ops[i]? = some o) (hg : Wants ops E o) (hd : o.dst = some d) (hdn : d < n) (hy : YN P w0 (O ++ R) E o u N) (h : ∀ x, SW P n w0 ops T K π ((d, u x) :: E) (N x ++ O) R) : SW P n w0 ops T K ((i, 1) :: π) E O R :=
  ⟨o, ho, by rw [Stp, if_neg (by decide), if_neg (by decide)]; exact ⟨_, _, _, hX, .make hg.guard hy, dok hd hdn, fun x => by rw [hd]; exact h x⟩⟩
theorem SW.new1 {X : Type} [Nonempty X] {u : X → Value} {N : X → Ent} (ho : ops[i]? = some o) (hg : Wants ops E o) (hd : o.dst = some d) (hdn : d < n) (hy : YN P w0 (O ++ R) E o u (fun x => [N x])) (h : ∀ x, SW P n w0 ops T K π ((d, u x) :: E) (N x :: O) R) : SW P n w0 ops T K ((i, 1) :: π) E O R := SW.new ho hg hd hdn hy h
theorem SW.a {u : Nat → Value} {e : Nat → Ent} (ho : ops[i]? = some o) (hg : o.guard = none) (hd : o.dst = some d) (hdn : d < n) (hT : T.get i = (u, e)) (hy : ∀ w0, YN P w0 [] E o u (fun b => [e b])) (h : ∀ b, SW P n w0 ops T K π ((d, u b) :: E) (e b :: O) R) : SW P n w0 ops T K ((i, 2) :: π) E O R :=
  ⟨o, ho, by
    rw [Stp, if_pos rfl, hT]
    exact ⟨hg, dok hd hdn, YA.of hy, fun b => by rw [hd]; exact h b⟩⟩
theorem SW.c {X : Type} [hX : Nonempty X] {u : X → Value} {O' : X → List Ent} (ho : ops[i]? = some o) (hg : Wants ops E o) (hd : o.dst = some d) (hdn : d < n) (hy : YC P w0 (O ++ R) E o u (fun x => O' x ++ R)) (h : ∀ x, SW P n w0 ops T K π ((d, u x) :: E) (O' x) R) : SW P n w0 ops T K ((i, 3) :: π) E O R :=
  ⟨o, ho, by rw [Stp, if_neg (by decide), if_neg (by decide)]; exact ⟨_, _, _, hX, .turn hg.guard hy, dok hd hdn, fun x => by rw [hd]; exact h x⟩⟩
theorem SW.s {X : Type} [hX : Nonempty X] {u : X → Value} {O' : X → List Ent} (ho : ops[i]? = some o) (hg : Wants ops E o) (hd : o.dst = none) (hy : YC P w0 (O ++ R) E o u (fun x => O' x ++ R)) (h : ∀ x, SW P n w0 ops T K π E (O' x) R) : SW P n w0 ops T K ((i, 3) :: π) E O R :=
  ⟨o, ho, by rw [Stp, if_neg (by decide), if_neg (by decide)]; exact ⟨_, _, _, hX, .turn hg.guard hy, (fun d' h' => by rw [hd] at h'; cases h'), fun x => by rw [hd]; exact h x⟩⟩
theorem SW.no {k : Kd} {j t : Nat} {b b' : Bool} (ho : ops[i]? = some o) (hk : k ≠ 2 ∧ k ≠ 4) (hg : o.guard = some (j, b)) (hj : (ops[j]?).bind (·.dst) = some t) (hb : E.get t = some (.bool b')) (hne : (b' == b) = false) (hd : o.dst = some d) (hdn : d < n)
    (h : SW P n w0 ops T K π ((d, undef) :: E) O R) : SW P n w0 ops T K ((i, k) :: π) E O R :=
  ⟨o, ho, by
    rw [Stp, if_neg hk.1, if_neg hk.2]
    refine ⟨_, _, _, ⟨()⟩, .skip (hne ▸ Guard.some hg hj hb), dok hd hdn, fun _ => by rw [hd]; exact h⟩⟩
theorem SW.split (hK : Lax3 w0 K) (t : Nat) (b : Bool) (hb : E.get t = some (.bool b)) (ht : b = true → SW P n w0 ops T K π ((t, .bool true) :: E) O R) (hf : b = false → SW P n w0 ops T K π ((t, .bool false) :: E) O R) : SW P n w0 ops T K π E O R := by
  cases b with
  | true => exact SW.lax hK π _ _ _ _ _ (fun s => (Env.get_shadow t _ E hb s).symm) (fun _ _ h => h) (ht rfl)
  | false => exact SW.lax hK π _ _ _ _ _ (fun s => (Env.get_shadow t _ E hb s).symm) (fun _ _ h => h) (hf rfl)
theorem eqO {O' : List Ent} {S : Act → World → Prop} (h : O = O') (hk : VX n w0 O' E S) : VX n w0 O E S := h ▸ hk
theorem lax_ve {Q : Exit → Act → World → Prop} : Lax3 w0 (fun E S R => VE n w0 (S ++ R) E Q .normal) := fun _ _ _ _ _ hE hO h a w ha hw => h a w (ha.mono fun t u ht => by rw [hE]; exact ht) (hp_nil (frame hO) w hw)
theorem UpdF.app {X : Type} {S R : List Ent} {e : Ent} {f : X → Ent} {S' : X → List Ent} (h : UpdF S e f S') : UpdF (S ++ R) e f (fun x => S' x ++ R) := by
  induction h with
  | here => exact UpdF.here
  | there _ ih => exact UpdF.there ih
  | thereS _ ih =>
    rename_i S1 O1 _ _ _
    have := UpdF.thereS (S := S1) ih
    simpa only [List.append_assoc] using this
theorem SW.t {X : Type} [hX : Nonempty X] {u : X → Value} {O' : X → List Ent} (ho : ops[i]? = some o) (hg : Wants ops E o) (hd : o.dst = none) (hy : YC P w0 (O ++ R) E o u O') (h : ∀ x, SW P n w0 ops T K π E (O' x) []) : SW P n w0 ops T K ((i, 4) :: π) E O R :=
  ⟨o, ho, by rw [Stp, if_neg (by decide), if_pos rfl]; exact ⟨_, _, _, hX, hg.guard, hy, (fun d' h' => by rw [hd] at h'; cases h'), fun x => by rw [hd]; exact h x⟩⟩
theorem SW.done (h : K E O R) : SW P n w0 ops T K [] E O R := h
end
end
end Dr
theorem Hp.pick {w0 w : World} {O M F : List Ent} (hw : Hp w0 O w) (h : Pick O M F) : Hp w0 M w := (hw.perm' h.perm).sub (List.sublist_append_right _ _)
end Go.Proofs.Ytnommdpgmoljcaa


namespace Go.Proofs.Ytnommdpgmoljcaa
open Go.RowKit

section
variable {P : Program} {E : Env} {o : Oper}
end

theorem in_t {n lo hi : Int} (h : lo ≤ n) : icmp .leq n hi = decide (lo ≤ n ∧ n ≤ hi) := by
  rw [Bool.eq_iff_iff, decide_eq_true_eq]
  constructor
  · intro h; have := ic_leq h; omega
  · rintro ⟨_, h⟩; exact decide_eq_true h
theorem in_f {n lo hi : Int} (h : n < lo) : false = decide (lo ≤ n ∧ n ≤ hi) := by
  symm; rw [decide_eq_false_iff_not]; omega
theorem can_f0 : Can .f32 0 := ⟨by decide, by decide⟩
end Go.Proofs.Ytnommdpgmoljcaa


namespace Go.Proofs.Ytnommdpgmoljcaa

def sqrt32 (x : Nat) : Nat := fconv .f64 .f32 (fsqrt (fconv .f32 .f64 x))
end Go.Proofs.Ytnommdpgmoljcaa


namespace Go.Proofs.Ytnommdpgmoljcaa
open Go.RowKit

abbrev V3 := Nat × Nat × Nat
def z3 : V3 := (0, 0, 0)
def vcs (v : V3) : List Value := [.float .f32 v.1, .float .f32 v.2.1, .float .f32 v.2.2]
def vv (v : V3) : Value := .agg #[.float .f32 v.1, .float .f32 v.2.1, .float .f32 v.2.2]
def vl : List V3 → List Value
  | [] => []
  | v :: vs => .float .f32 v.1 :: .float .f32 v.2.1 :: .float .f32 v.2.2 :: vl vs
theorem vl_length : ∀ vs : List V3, (vl vs).length = vs.length * 3
  | [] => rfl
  | v :: vs => by simp only [vl, List.length_cons, vl_length vs]; omega
theorem vl_scal : ∀ vs : List V3, (vl vs).all scal = true
  | [] => rfl
  | v :: vs => by simp only [vl, List.all_cons, vl_scal vs, scal, Bool.and_self]
theorem vl_append : ∀ us vs : List V3, vl us ++ vl vs = vl (us ++ vs)
  | [], vs => rfl
  | u :: us, vs => by simp only [vl, List.cons_append, vl_append us vs]
theorem vl_snoc (us : List V3) (v : V3) : vl us ++ [.float .f32 v.1, .float .f32 v.2.1, .float .f32 v.2.2] = vl (us ++ [v]) := vl_append us [v]
theorem vl_take : ∀ (vs : List V3) (k : Nat), k < vs.length → ((vl vs).drop (k * 3)).take 3 = vcs (vs.getD k z3)
  | [], _, h => by simp at h
  | v :: vs, 0, _ => rfl
  | v :: vs, k + 1, h => by
    have ih := vl_take vs k (by simpa using h)
    rw [show (k + 1) * 3 = k * 3 + 1 + 1 + 1 by omega]
    simpa [vl, List.getD] using ih
section
variable {P : Program} {n : Nat} {w0 : World} {O : List Ent} {E : Env} {o : Oper}
theorem yq_loadV {t : TypeId} {x : Operand} {a : Option Addr} {k : Nat} {vs : List V3} {fs : Array Field} (ho : o.op = .load t x) (ht : P.underlying t = some (.struct fs)) (hz : (P.info? t).map (·.size) = some 3) (hx : E.opd x = some (.pointer (some (adr a (k * 3))))) (hs : Sees w0 O a (vl vs)) (hk : k < vs.length) :
    YQ P w0 O E o (vv (vs.getD k z3)) :=
  yq_loadS (cs := vcs (vs.getD k z3)) ho ht hz hx hs (vl_take vs k hk) rfl rfl
end

def add3 (a b : V3) : V3 := (fop .add .f32 a.1 b.1, fop .add .f32 a.2.1 b.2.1, fop .add .f32 a.2.2 b.2.2)
def sub3 (a b : V3) : V3 := (fop .sub .f32 a.1 b.1, fop .sub .f32 a.2.1 b.2.1, fop .sub .f32 a.2.2 b.2.2)
def scale3 (a : V3) (k : Nat) : V3 := (fop .mul .f32 a.1 k, fop .mul .f32 a.2.1 k, fop .mul .f32 a.2.2 k)
def inner3 (a b : V3) : Nat := fop .add .f32 (fop .add .f32 (fop .mul .f32 a.1 b.1) (fop .mul .f32 a.2.1 b.2.1)) (fop .mul .f32 a.2.2 b.2.2)
def cross3 (a b : V3) : V3 := (fop .sub .f32 (fop .mul .f32 a.2.1 b.2.2) (fop .mul .f32 a.2.2 b.2.1), fop .sub .f32 (fop .mul .f32 a.2.2 b.1) (fop .mul .f32 a.1 b.2.2), fop .sub .f32 (fop .mul .f32 a.1 b.2.1) (fop .mul .f32 a.2.1 b.1))
def long3 (a : V3) : Nat := sqrt32 (inner3 a a)
def fin3 (a : V3) : Bool := fin a.1 && fin a.2.1 && fin a.2.2
def Can3 (a : V3) : Prop := Can .f32 a.1 ∧ Can .f32 a.2.1 ∧ Can .f32 a.2.2
theorem can_z3 : Can3 z3 := ⟨can_f0, can_f0, can_f0⟩
theorem fin3_t {a : V3} (h1 : fin a.1 = true) (h2 : fin a.2.1 = true) : fin a.2.2 = fin3 a := by unfold fin3; rw [h1, h2]; rfl
theorem fin3_f1 {a : V3} (h1 : fin a.1 = false) : false = fin3 a := by unfold fin3; rw [h1]; rfl
theorem fin3_f2 {a : V3} (h1 : fin a.1 = true) (h2 : fin a.2.1 = false) : false = fin3 a := by unfold fin3; rw [h1, h2]; rfl
/-! ### the field of a segment -/
def segX (a b p : V3) : Nat := fop .mul .f32 (long3 (sub3 p a)) (long3 (sub3 p b))
def segD (a b p : V3) : Nat := fop .mul .f32 (segX a b p) (fop .add .f32 (segX a b p) (inner3 (sub3 p a) (sub3 p b)))
def segQ (a b p : V3) : Nat := fop .quo .f32 (fop .add .f32 (long3 (sub3 p a)) (long3 (sub3 p b))) (segD a b p)
def segF (a b p : V3) : V3 := if fcmp .gtr .f32 (segD a b p) 0 && fin (segQ a b p) then scale3 (cross3 (sub3 p a) (sub3 p b)) (segQ a b p) else z3
end Go.Proofs.Ytnommdpgmoljcaa


namespace Go.Proofs.Ytnommdpgmoljcaa

/-! ### the side of a square -/
def isSide (m n : Nat) : Bool := decide (1 ≤ n) && decide (n * n = m)
def side (m : Nat) : Nat := ((List.range 9).find? (isSide m)).getD 0
/-! ### forward and backward -/
end Go.Proofs.Ytnommdpgmoljcaa


namespace Go.Proofs.Ytnommdpgmoljcaa
open Go.RowKit

/-! ### the first index of which something holds -/
theorem szOf_neg {left : Int} {m m' : Nat} (h : szOf left m < 0) (hm : m ≤ m') : szOf left m' = -1 := by
  unfold szOf at *
  split at h
  · rw [if_pos (by omega)]
  · omega
theorem szOf_fits {m : Nat} (h : 0 ≤ szOf 1048576 m) : m ≤ 1048576 := by
  apply Classical.byContradiction
  intro g
  rw [szOf, if_pos (by omega)] at h
  omega
/-! ### what is valid -/
section
variable {P : Program} {n : Nat} {w0 : World} {O : List Ent} {E : Env} {o : Oper}
end
end Go.Proofs.Ytnommdpgmoljcaa


namespace Go.Proofs.Ytnommdpgmoljcaa
open Go.RowKit

abbrev Wr := List V3 × Bool × Nat
def zw : Wr := ([], false, 0)
def wcs (p : Option Addr × Nat) (w : Wr) : List Value := [.slice p.1 w.1.length p.2, .bool w.2.1, .float .f32 w.2.2]
def whdF (f : Nat → Option Addr × Nat) : Nat → List Wr → List Value
  | _, [] => []
  | i, w :: ws => .slice (f i).1 w.1.length (f i).2 :: .bool w.2.1 :: .float .f32 w.2.2 :: whdF f (i + 1) ws
def whd (f : Nat → Option Addr × Nat) (ws : List Wr) : List Value := whdF f 0 ws
theorem whdF_length (f : Nat → Option Addr × Nat) : ∀ (ws : List Wr) (i : Nat), (whdF f i ws).length = ws.length * 3
  | [], _ => rfl
  | w :: ws, i => by simp only [whdF, List.length_cons, whdF_length f ws]; omega
theorem whd_length (f : Nat → Option Addr × Nat) (ws : List Wr) : (whd f ws).length = ws.length * 3 := whdF_length f ws 0
theorem whdF_scal (f : Nat → Option Addr × Nat) : ∀ (ws : List Wr) (i : Nat), (whdF f i ws).all scal = true
  | [], _ => rfl
  | w :: ws, i => by simp only [whdF, List.all_cons, whdF_scal f ws, scal, Bool.and_self]
theorem whd_scal (f : Nat → Option Addr × Nat) (ws : List Wr) : (whd f ws).all scal = true := whdF_scal f ws 0
theorem whdF_take (f : Nat → Option Addr × Nat) : ∀ (ws : List Wr) (i k : Nat), k < ws.length → ((whdF f i ws).drop (k * 3)).take 3 = wcs (f (i + k)) (ws.getD k zw)
  | [], _, _, h => by simp at h
  | w :: ws, i, 0, _ => rfl
  | w :: ws, i, k + 1, h => by
    have ih := whdF_take f ws (i + 1) k (by simpa using h)
    rw [show (k + 1) * 3 = k * 3 + 1 + 1 + 1 by omega, show i + (k + 1) = i + 1 + k by omega]
    simpa [whdF, List.getD] using ih
theorem whd_take {f : Nat → Option Addr × Nat} {ws : List Wr} {k : Nat} (h : k < ws.length) : ((whd f ws).drop (k * 3)).take 3 = wcs (f k) (ws.getD k zw) := by
  have := whdF_take f ws 0 k h
  rwa [Nat.zero_add] at this
theorem take_get {us cs : List Value} {k j : Nat} (h : (us.drop k).take 3 = cs) (hj : j < 3) : us[k + j]? = cs[j]? := by
  subst h
  rw [List.getElem?_take, if_pos hj, List.getElem?_drop]
theorem whd_get0 {f : Nat → Option Addr × Nat} {ws : List Wr} {k : Nat} (h : k < ws.length) : (whd f ws)[k * 3]? = some (.slice (f k).1 (ws.getD k zw).1.length (f k).2) := take_get (j := 0) (whd_take h) (by decide)
def wrents (t : TypeId) (f : Nat → Option Addr × Nat) (ws : List Wr) : List Ent := (List.range ws.length).map fun i => ⟨(f i).1, vl (ws.getD i zw).1, (f i).2 * 3, t⟩
theorem wrents_mem {t : TypeId} {f : Nat → Option Addr × Nat} {ws : List Wr} {i : Nat} (h : i < ws.length) : (⟨(f i).1, vl (ws.getD i zw).1, (f i).2 * 3, t⟩ : Ent) ∈ wrents t f ws := by
  unfold wrents
  exact List.mem_map.2 ⟨i, by simpa using h, rfl⟩
/-- Each wire's points lie where its header says. -/
def WRws (w : World) (f : Nat → Option Addr × Nat) (ws : List Wr) : Prop := ∀ i, i < ws.length → Cl w (f i).1 (vl (ws.getD i zw).1)
theorem WRws.below {w w' : World} {f : Nat → Option Addr × Nat} {ws : List Wr} (h : WRws w f ws) (hb : Below w.heap.size w w') : WRws w' f ws := fun i hi => (h i hi).below hb
theorem WRws.root {w0 w : World} {O : List Ent} {f : Nat → Option Addr × Nat} {ws : List Wr} (h : WRws w0 f ws) (hw : Hp w0 O w) : WRws w f ws := h.below hw.below
inductive WRowsIn : List Ent → TypeId → (Nat → Option Addr × Nat) → List Wr → Prop
  | here {t : TypeId} {f : Nat → Option Addr × Nat} {ws : List Wr} {O : List Ent} : WRowsIn (wrents t f ws ++ O) t f ws
  | last {t : TypeId} {f : Nat → Option Addr × Nat} {ws : List Wr} : WRowsIn (wrents t f ws) t f ws
  | there {t : TypeId} {f : Nat → Option Addr × Nat} {ws : List Wr} {e : Ent} {O : List Ent} : WRowsIn O t f ws → WRowsIn (e :: O) t f ws
  | thereS {t : TypeId} {f : Nat → Option Addr × Nat} {ws : List Wr} {S O : List Ent} : WRowsIn O t f ws → WRowsIn (S ++ O) t f ws
theorem WRowsIn.mem {O : List Ent} {t : TypeId} {f : Nat → Option Addr × Nat} {ws : List Wr} (h : WRowsIn O t f ws) : ∀ i, i < ws.length → (⟨(f i).1, vl (ws.getD i zw).1, (f i).2 * 3, t⟩ : Ent) ∈ O := by
  induction h with
  | here => exact fun i hi => List.mem_append_left _ (wrents_mem hi)
  | last => exact fun i hi => wrents_mem hi
  | there _ ih => exact fun i hi => List.mem_cons_of_mem _ (ih i hi)
  | thereS _ ih => exact fun i hi => List.mem_append_right _ (ih i hi)
theorem WRws.own {w0 w : World} {O : List Ent} {t : TypeId} {f : Nat → Option Addr × Nat} {ws : List Wr} (h : WRowsIn O t f ws) (hw : Hp w0 O w) : WRws w f ws := fun i hi => Sees.own (h.mem i hi) w hw
theorem vtake_snoc {vs : List V3} {k : Nat} (h : k < vs.length) : vs.take k ++ [vs.getD k z3] = vs.take (k + 1) := by
  rw [List.take_succ_eq_append_getElem h]; simp [h]
theorem setAt_mid : ∀ (A : List Value) (x y z c0 c1 c2 : Value) (B : List Value), setAt (A ++ x :: y :: z :: B) A.length [c0, c1, c2] = A ++ c0 :: c1 :: c2 :: B
  | [], x, y, z, c0, c1, c2, B => rfl
  | a :: A, x, y, z, c0, c1, c2, B => by
    have ih := setAt_mid A x y z c0 c1 c2 B
    simp only [setAt, List.cons_append, List.length_cons, List.set_cons_succ] at ih ⊢
    rw [ih]
/-- The list of vectors of which the first k are made. -/
def vlk (vs : List V3) (k : Nat) : List Value := vl (vs.take k) ++ cycle [.float .f32 0, .float .f32 0, .float .f32 0] (vs.length - k)
theorem vlk_length {vs : List V3} {k : Nat} (h : k ≤ vs.length) : (vlk vs k).length = vs.length * 3 := by
  simp only [vlk, List.length_append, vl_length, cycle_length, List.length_take, List.length_cons, List.length_nil]
  rw [Nat.min_eq_left h, ← Nat.add_mul]
  congr 1
  omega
theorem vlk_set {vs : List V3} {k : Nat} (h : k < vs.length) : setAt (vlk vs k) (k * 3) [.float .f32 (vs.getD k z3).1, .float .f32 (vs.getD k z3).2.1, .float .f32 (vs.getD k z3).2.2] = vlk vs (k + 1) := by
  have hlk : (vs.take k).length = k := by rw [List.length_take]; omega
  have hA : (vl (vs.take k)).length = k * 3 := by rw [vl_length, hlk]
  unfold vlk
  rw [show vs.length - k = (vs.length - (k + 1)) + 1 by omega]
  simp only [cycle, List.cons_append, List.nil_append]
  rw [← hA, setAt_mid, ← vtake_snoc h, ← vl_snoc]
  simp
theorem vlk_zero (vs : List V3) : vlk vs 0 = cycle [.float .f32 0, .float .f32 0, .float .f32 0] vs.length := by simp [vlk, vl]
theorem vlk_all (vs : List V3) : vlk vs vs.length = vl vs := by simp [vlk, cycle]
def Cans3 (vs : List V3) : Prop := ∀ v ∈ vs, Can3 v
theorem Cans3.row {vs : List V3} (h : Cans3 vs) {k : Nat} (hk : k < vs.length) : Can3 (vs.getD k z3) := h _ (by simp [hk])
def CansW (ws : List Wr) : Prop := ∀ w ∈ ws, Cans3 w.1 ∧ Can .f32 w.2.2
theorem CansW.row {ws : List Wr} (h : CansW ws) {k : Nat} (hk : k < ws.length) : Cans3 (ws.getD k zw).1 ∧ Can .f32 (ws.getD k zw).2.2 := h _ (by simp [hk])
theorem vtake_succ_eq {xs ys : List V3} {k : Nat} (ht : xs.take k = ys.take k) (hx : k < xs.length) (hy : k < ys.length) (h : xs.getD k z3 = ys.getD k z3) : xs.take (k + 1) = ys.take (k + 1) := by
  rw [← vtake_snoc hx, ← vtake_snoc hy, ht, h]
section
variable {P : Program} {n : Nat} {w0 : World} {O : List Ent} {E : Env} {o : Oper}
end

/-! ### sizes -/
/-! ### what is valid -/
section
variable {ps : List V3} {cl : Bool} {cur : Nat}
end
/-! ### the field -/
def segN (w : Wr) : Nat := if w.2.1 then w.1.length else w.1.length - 1
def segA (w : Wr) (i : Nat) : V3 := w.1.getD i z3
def segB (w : Wr) (i : Nat) : V3 := w.1.getD ((i + 1) % w.1.length) z3
def sumW (w : Wr) (p : V3) : Nat → V3
  | 0 => z3
  | i + 1 => add3 (sumW w p i) (segF (segA w i) (segB w i) p)
def wireF (w : Wr) (p : V3) : V3 := scale3 (sumW w p (segN w)) w.2.2
def sumA (ws : List Wr) (p s0 : V3) : Nat → V3
  | 0 => s0
  | i + 1 => add3 (sumA ws p s0 i) (wireF (ws.getD i zw) p)
/-- The field, as the program makes it. -/
def fieldI (ws : List Wr) (p : V3) : V3 := sumA ws p z3 ws.length
/-- The field, as the reference makes it. -/
def fieldS (ws : List Wr) (p : V3) : V3 := sumA ws p (if fin3 p then z3 else sub3 p p) ws.length
end Go.Proofs.Ytnommdpgmoljcaa


namespace Go.Proofs.Ytnommdpgmoljcaa
open Go.RowKit Go.ChangeShapes Go.WideShapes Go.Deep

section
variable {H : Type} {enc : TypeId × Value → H} {P : Program} {w : World} {base : Nat} {spare : Nat → Bool} {held : Bool}

theorem trod_flt {k : FloatKind} {t : TypeId} {fuel : Nat} {cs : List Value} {x : DataW H × List MemPlace} (ht : P.underlying t = some (.float k)) (h : DataW.trod enc P w base spare held fuel t cs = some x) : ∃ b, cs = [.float k b] ∧ b < 2 ^ k.format.width := by
  have key : ∃ b, cs = [.float k b] ∧ (Lit.float k b).wf = true := by
    cases fuel with
    | zero => simp [DataW.trod] at h
    | succ n =>
      unfold DataW.trod at h
      rw [ht] at h
      split at h <;> simp_all
  obtain ⟨b, h1, h2⟩ := key
  exact ⟨b, h1, wf_lt h2⟩

/-- A struct of three numbers. -/
theorem trod_vec {t : TypeId} {f0 f1 f2 : Field} {fuel : Nat} {cs : List Value} {x : DataW H × List MemPlace} (ht : P.underlying t = some (.struct #[f0, f1, f2])) (ct : P.cellsOf t = 3)
    (o0 : f0.offset = 0) (o1 : f1.offset = 1) (o2 : f2.offset = 2) (k0 : P.underlying f0.type = some (.float .f32)) (k1 : P.underlying f1.type = some (.float .f32)) (k2 : P.underlying f2.type = some (.float .f32))
    (c0 : P.cellsOf f0.type = 1) (c1 : P.cellsOf f1.type = 1) (c2 : P.cellsOf f2.type = 1) (h : DataW.trod enc P w base spare held fuel t cs = some x) :
    ∃ b0 b1 b2, cs = [.float .f32 b0, .float .f32 b1, .float .f32 b2] ∧ b0 < 2 ^ 32 ∧ b1 < 2 ^ 32 ∧ b2 < 2 ^ 32 := by
  obtain ⟨hl, hf⟩ := trod_field ht h
  rw [ct] at hl
  match cs, hl with
  | [v0, v1, v2], _ =>
    obtain ⟨y0, n0, g0⟩ := hf 0 f0 rfl
    obtain ⟨y1, n1, g1⟩ := hf 1 f1 rfl
    obtain ⟨y2, n2, g2⟩ := hf 2 f2 rfl
    rw [o0, c0] at g0
    rw [o1, c1] at g1
    rw [o2, c2] at g2
    obtain ⟨b0, e0, l0⟩ := trod_flt k0 g0
    obtain ⟨b1, e1, l1⟩ := trod_flt k1 g1
    obtain ⟨b2, e2, l2⟩ := trod_flt k2 g2
    simp at e0 e1 e2
    subst e0; subst e1; subst e2
    exact ⟨b0, b1, b2, rfl, l0, l1, l2⟩

theorem vl_get {vs : List V3} {i : Nat} (h : i < vs.length * 3) : (vl vs)[i]? = (vcs (vs.getD (i / 3) z3))[i % 3]? := by
  have hk : i / 3 < vs.length := by omega
  have := take_get (vl_take vs (i / 3) hk) (j := i % 3) (by omega)
  rwa [show i / 3 * 3 + i % 3 = i by omega] at this
/-- A list of vectors. -/
theorem trod_vecs {t e : TypeId} {f0 f1 f2 : Field} {fuel : Nat} {cs : List Value} {x : DataW H × List MemPlace} (ht : P.underlying t = some (.slice e)) (he : P.underlying e = some (.struct #[f0, f1, f2])) (ce : P.cellsOf e = 3)
    (o0 : f0.offset = 0) (o1 : f1.offset = 1) (o2 : f2.offset = 2) (k0 : P.underlying f0.type = some (.float .f32)) (k1 : P.underlying f1.type = some (.float .f32)) (k2 : P.underlying f2.type = some (.float .f32))
    (c0 : P.cellsOf f0.type = 1) (c1 : P.cellsOf f1.type = 1) (c2 : P.cellsOf f2.type = 1) (h : DataW.trod enc P w base spare held fuel t cs = some x) :
    ∃ (a : Option Addr) (vs : List V3) (c : Nat), cs = [.slice a vs.length c] ∧ Cl w a (vl vs) ∧ Cans3 vs ∧ vs.length ≤ 9223372036854775807 := by
  rcases open_slice ht h with ⟨h, _⟩ | ⟨a', len', cap', m, n, D, Pl, rfl, hb, hl, hm, hmm, rfl, hx⟩
  · exact ⟨none, [], 0, h, .inl rfl, (fun v hv => by cases hv), by simp⟩
  · have hlm : len' ≤ m := by rw [hmm]; split <;> omega
    have each : ∀ i, i < len' → ∃ q : Nat × Nat × Nat, (w.cell? (a'.add (i * 3)) = some (.float .f32 q.1) ∧ w.cell? (a'.add (i * 3 + 1)) = some (.float .f32 q.2.1) ∧ w.cell? (a'.add (i * 3 + 2)) = some (.float .f32 q.2.2)) ∧ q.1 < 2 ^ 32 ∧ q.2.1 < 2 ^ 32 ∧ q.2.2 < 2 ^ 32 := by
      intro i hi
      obtain ⟨cs', h1, h2⟩ := hx i (by omega)
      rw [ce] at h1
      obtain ⟨b0, b1, b2, rfl, l0, l1, l2⟩ := trod_vec he ce o0 o1 o2 k0 k1 k2 c0 c1 c2 h2
      obtain ⟨_, _, hcell⟩ := World.cells?_some h1
      have e0 := hcell 0 (by omega)
      have e1 := hcell 1 (by omega)
      have e2 := hcell 2 (by omega)
      rw [add_add] at e0 e1 e2
      exact ⟨(b0, b1, b2), ⟨by simpa using e0, by simpa using e1, by simpa using e2⟩, l0, l1, l2⟩
    obtain ⟨Q, hQ⟩ := choose_lt each
    have hget : ∀ i, i < len' → ((List.range len').map (fun i => ((cb .f32 (Q i).1, cb .f32 (Q i).2.1, cb .f32 (Q i).2.2) : V3))).getD i z3 = (cb .f32 (Q i).1, cb .f32 (Q i).2.1, cb .f32 (Q i).2.2) := fun i hi => by simp [List.getD, hi]
    refine ⟨some a', (List.range len').map (fun i => ((cb .f32 (Q i).1, cb .f32 (Q i).2.1, cb .f32 (Q i).2.2) : V3)), cap', by simp, ?_, ?_, ?_⟩
    · by_cases h0 : len' = 0
      · subst h0; exact .inl rfl
      · have hsp : a'.spot = none := by
          have := (hQ 0 (by omega)).1.1
          simpa [Addr.add] using World.cell?_spot this
        obtain ⟨bk, off, spot⟩ := a'
        simp only at hsp
        subst hsp
        refine .inr ⟨_, rfl, rfl, fun i u hu => ?_⟩
        have hlt : i < len' * 3 := by
          have := (List.getElem?_eq_some_iff.1 hu).1
          simpa [vl_length] using this
        rw [vl_get (by simpa using hlt), hget _ (by omega)] at hu
        obtain ⟨⟨g0, g1, g2⟩, _⟩ := hQ (i / 3) (by omega)
        rw [add_plain] at g0 g1 g2
        have hi3 : i % 3 = 0 ∨ i % 3 = 1 ∨ i % 3 = 2 := by omega
        rcases hi3 with h3 | h3 | h3 <;> rw [h3] at hu <;> simp [vcs] at hu <;> subst hu
        · exact ⟨_, by rw [show off + i = off + i / 3 * 3 by omega]; exact g0, by simp [cn, cn1, cn0]⟩
        · exact ⟨_, by rw [show off + i = off + (i / 3 * 3 + 1) by omega]; exact g1, by simp [cn, cn1, cn0]⟩
        · exact ⟨_, by rw [show off + i = off + (i / 3 * 3 + 2) by omega]; exact g2, by simp [cn, cn1, cn0]⟩
    · intro v hv
      obtain ⟨i, hi, rfl⟩ := List.mem_map.1 hv
      obtain ⟨_, l0, l1, l2⟩ := hQ i (by simpa using hi)
      exact ⟨can_cb .f32 l0, can_cb .f32 l1, can_cb .f32 l2⟩
    · have hml : maxLen ≤ 9223372036854775807 := by decide
      simp; omega

end
end Go.Proofs.Ytnommdpgmoljcaa


namespace Go.Proofs.Ytnommdpgmoljcaa
open Go.RowKit
set_option linter.unusedVariables false
set_option linter.unusedSimpArgs false
set_option maxRecDepth 20000

theorem known97_Base : Known Try.prog 97 := Known.mk' Try.func97 (by kernel_rfl)

theorem c_IsFinite {w : World} (x : Nat) : Pure Try.prog 97 [.float .f32 x] w (.bool (fin x)) := by
  refine Pure.enter Try.func97 rfl Try.ntmps97 (Nat.le_of_ble_eq_true rfl) ?_
  refine V.seq ?_
  refine V.region ?_
  refine VL.r (.inl rfl) rfl (by decide) (yr_assign (u := .bool false) rfl rfl) ?_
  refine VL.nil ?_
  refine VE.then_wp ?_
  refine V.seq ?_
  refine V.region ?_
  refine VL.r (.inl rfl) rfl (by decide) (yr_move rfl rfl) ?_
  refine VL.r (.inl rfl) rfl (by decide) (yr_move rfl rfl) ?_
  refine VL.r (.inl rfl) rfl (by decide) (yr_float rfl (.inr (.inl rfl)) rfl rfl) ?_
  refine VL.r (.inl rfl) rfl (by decide) (yr_fcmp (b := 0) rfl (.inl rfl) rfl rfl) ?_
  refine VL.r (.inl rfl) rfl (by decide) (yr_assign rfl rfl) ?_
  refine VL.nil ?_
  refine VE.then_wp ?_
  refine V.ret ?_
  refine ret1 rfl rfl (fun w1 hw => ?_)
  exact ⟨rfl, hw.below⟩

theorem c_l01Finite {w : World} (x : Nat) : Pure Try.prog 80 [.float .f32 x] w (.bool (fin x)) := by
  refine Pure.enter Try.func80 rfl Try.ntmps80 (Nat.le_of_ble_eq_true rfl) ?_
  refine V.seq ?_
  refine V.region ?_
  refine VL.r (.inl rfl) rfl (by decide) (yr_assign (u := .bool false) rfl rfl) ?_
  refine VL.nil ?_
  refine VE.then_wp ?_
  refine V.seq ?_
  refine V.region ?_
  refine VL.r (.inl rfl) rfl (by decide) (yr_move rfl rfl) ?_
  refine VL.r (.inl rfl) rfl (by decide) (yr_move rfl rfl) ?_
  refine VL.r (.inl rfl) rfl (by decide) (yr_float rfl (.inr (.inl rfl)) rfl rfl) ?_
  refine VL.r (.inl rfl) rfl (by decide) (yr_fcmp (b := 0) rfl (.inl rfl) rfl rfl) ?_
  refine VL.r (.inl rfl) rfl (by decide) (yr_assign rfl rfl) ?_
  refine VL.nil ?_
  refine VE.then_wp ?_
  refine V.ret ?_
  refine ret1 rfl rfl (fun w1 hw => ?_)
  exact ⟨rfl, hw.below⟩

theorem c_isLength {w : World} (x : Nat) : Pure Try.prog 95 [.float .f32 x] w (.bool (above x)) := by
  refine Pure.enter Try.func95 rfl Try.ntmps95 (Nat.le_of_ble_eq_true rfl) ?_
  refine V.seq ?_
  refine V.region ?_
  refine VL.r (.inl rfl) rfl (by decide) (yr_assign (u := .bool false) rfl rfl) ?_
  refine VL.nil ?_
  refine VE.then_wp ?_
  refine V.seq ?_
  refine V.region ?_
  refine VL.r (.inl rfl) rfl (by decide) (yr_move rfl rfl) ?_
  refine VL.q (.inl rfl) rfl (by decide) (yq_callf rfl known97_Base (.cons rfl .nil) (fun w hw => c_IsFinite _)) ?_
  refine VL.r (.inl rfl) rfl (by decide) (yr_move rfl rfl) ?_
  refine VX.split 5 _ rfl (fun h1 => ?_) (fun h1 => ?_)
  · skip
    refine VL.r (.inr ⟨_, _, _, rfl, rfl, rfl⟩) rfl (by decide) (yr_move rfl rfl) ?_
    refine VL.r (.inr ⟨_, _, _, rfl, rfl, rfl⟩) rfl (by decide) (yr_fcmp (b := 0) rfl (.inr (.inr (.inr (.inr (.inl rfl))))) rfl rfl) ?_
    refine VL.r (.inl rfl) rfl (by decide) (yr_pick_t rfl rfl rfl) ?_
    refine VL.r (.inl rfl) rfl (by decide) (yr_assign rfl rfl) ?_
    refine VL.nil ?_
    refine VE.then_wp ?_
    refine V.ret ?_
    refine ret1 rfl rfl (fun w1 hw => ?_)
    exact ⟨by simp only [above, *, Bool.true_and], hw.below⟩
  · skip
    refine VL.no rfl rfl rfl rfl rfl (by decide) ?_
    refine VL.no rfl rfl rfl rfl rfl (by decide) ?_
    refine VL.r (.inl rfl) rfl (by decide) (yr_pick_f (u := .bool false) rfl rfl rfl) ?_
    refine VL.r (.inl rfl) rfl (by decide) (yr_assign rfl rfl) ?_
    refine VL.nil ?_
    refine VE.then_wp ?_
    refine V.ret ?_
    refine ret1 rfl rfl (fun w1 hw => ?_)
    exact ⟨by simp only [above, *, Bool.false_and], hw.below⟩

theorem c_sameFloat {w : World} (x y : Nat) (hx : Can .f64 x) (hy : Can .f64 y) : Pure Try.prog 33 [.float .f64 x, .float .f64 y] w (.bool (x == y)) := by
  refine Pure.enter Try.func33 rfl Try.ntmps33 (Nat.le_of_ble_eq_true rfl) ?_
  refine V.seq ?_
  refine V.region ?_
  refine VL.r (.inl rfl) rfl (by decide) (yr_assign (u := .bool false) rfl rfl) ?_
  refine VL.nil ?_
  refine VE.then_wp ?_
  refine V.seq ?_
  refine V.seq ?_
  refine V.region ?_
  refine VL.r (.inl rfl) rfl (by decide) (yr_move rfl rfl) ?_
  refine VL.r (.inl rfl) rfl (by decide) (yr_move rfl rfl) ?_
  refine VL.r (.inl rfl) rfl (by decide) (yr_fcmp rfl (.inr (.inl rfl)) rfl rfl) ?_
  refine VL.r (.inl rfl) rfl (by decide) (yr_move rfl rfl) ?_
  refine VX.split 8 _ rfl (fun h1 => ?_) (fun h1 => ?_)
  · skip
    refine VL.no rfl rfl rfl rfl rfl (by decide) ?_
    refine VL.no rfl rfl rfl rfl rfl (by decide) ?_
    refine VL.no rfl rfl rfl rfl rfl (by decide) ?_
    refine VL.r (.inl rfl) rfl (by decide) (yr_pick_t (u := .bool true) rfl rfl rfl) ?_
    refine VL.nil ?_
    refine VE.then_wp ?_
    refine V.condT rfl ?_
    refine V.seq ?_
    refine V.region ?_
    refine VL.r (.inl rfl) rfl (by decide) (yr_move rfl rfl) ?_
    refine VL.r (.inl rfl) rfl (by decide) (yr_move rfl rfl) ?_
    refine VL.r (.inl rfl) rfl (by decide) (yr_fcmp rfl (.inr (.inl rfl)) rfl rfl) ?_
    refine VL.r (.inl rfl) rfl (by decide) (yr_move rfl rfl) ?_
    refine VX.split 16 _ rfl (fun h3 => ?_) (fun h3 => ?_)
    · skip
      refine VL.r (.inr ⟨_, _, _, rfl, rfl, rfl⟩) rfl (by decide) (yr_move rfl rfl) ?_
      refine VL.r (.inr ⟨_, _, _, rfl, rfl, rfl⟩) rfl (by decide) (yr_move rfl rfl) ?_
      refine VL.r (.inr ⟨_, _, _, rfl, rfl, rfl⟩) rfl (by decide) (yr_fcmp rfl (.inr (.inl rfl)) rfl rfl) ?_
      refine VL.r (.inl rfl) rfl (by decide) (yr_pick_t rfl rfl rfl) ?_
      refine VL.r (.inl rfl) rfl (by decide) (yr_assign rfl rfl) ?_
      refine VL.nil ?_
      refine VE.then_wp ?_
      refine V.ret ?_
      refine VE.then_ret ?_
      refine ret1 rfl rfl (fun w1 hw => ?_)
      refine ⟨?_, hw.below⟩
      simp only [fne_self, isz_of_feq0 hx, isz_of_feq0 hy] at *
      first
        | exact congrArg Value.bool (same_nanx hx hy (by assumption))
        | exact congrArg Value.bool (same_nany (by assumption) (by assumption)).symm
        | (exfalso; simp_all; done)
        | exact congrArg Value.bool (same_zero hx hy (by assumption) (by assumption))
        | exact congrArg Value.bool (same_eq hx hy (by assumption) (by assumption) (.inl (by assumption)))
        | exact congrArg Value.bool (same_eq hx hy (by assumption) (by assumption) (.inr (by assumption)))
    · skip
      refine VL.no rfl rfl rfl rfl rfl (by decide) ?_
      refine VL.no rfl rfl rfl rfl rfl (by decide) ?_
      refine VL.no rfl rfl rfl rfl rfl (by decide) ?_
      refine VL.r (.inl rfl) rfl (by decide) (yr_pick_f (u := .bool false) rfl rfl rfl) ?_
      refine VL.r (.inl rfl) rfl (by decide) (yr_assign rfl rfl) ?_
      refine VL.nil ?_
      refine VE.then_wp ?_
      refine V.ret ?_
      refine VE.then_ret ?_
      refine ret1 rfl rfl (fun w1 hw => ?_)
      refine ⟨?_, hw.below⟩
      simp only [fne_self, isz_of_feq0 hx, isz_of_feq0 hy] at *
      first
        | exact congrArg Value.bool (same_nanx hx hy (by assumption))
        | exact congrArg Value.bool (same_nany (by assumption) (by assumption)).symm
        | (exfalso; simp_all; done)
        | exact congrArg Value.bool (same_zero hx hy (by assumption) (by assumption))
        | exact congrArg Value.bool (same_eq hx hy (by assumption) (by assumption) (.inl (by assumption)))
        | exact congrArg Value.bool (same_eq hx hy (by assumption) (by assumption) (.inr (by assumption)))
  · skip
    refine VL.r (.inr ⟨_, _, _, rfl, rfl, rfl⟩) rfl (by decide) (yr_move rfl rfl) ?_
    refine VL.r (.inr ⟨_, _, _, rfl, rfl, rfl⟩) rfl (by decide) (yr_move rfl rfl) ?_
    refine VL.r (.inr ⟨_, _, _, rfl, rfl, rfl⟩) rfl (by decide) (yr_fcmp rfl (.inr (.inl rfl)) rfl rfl) ?_
    refine VL.r (.inl rfl) rfl (by decide) (yr_pick_f rfl rfl rfl) ?_
    refine VL.nil ?_
    refine VE.then_wp ?_
    refine V.cond rfl (fun h4 => ?_) (fun h4 => ?_)
    · skip
      refine V.seq ?_
      refine V.region ?_
      refine VL.r (.inl rfl) rfl (by decide) (yr_move rfl rfl) ?_
      refine VL.r (.inl rfl) rfl (by decide) (yr_move rfl rfl) ?_
      refine VL.r (.inl rfl) rfl (by decide) (yr_fcmp rfl (.inr (.inl rfl)) rfl rfl) ?_
      refine VL.r (.inl rfl) rfl (by decide) (yr_move rfl rfl) ?_
      refine VX.split 16 _ rfl (fun h5 => ?_) (fun h5 => ?_)
      · skip
        refine VL.r (.inr ⟨_, _, _, rfl, rfl, rfl⟩) rfl (by decide) (yr_move rfl rfl) ?_
        refine VL.r (.inr ⟨_, _, _, rfl, rfl, rfl⟩) rfl (by decide) (yr_move rfl rfl) ?_
        refine VL.r (.inr ⟨_, _, _, rfl, rfl, rfl⟩) rfl (by decide) (yr_fcmp rfl (.inr (.inl rfl)) rfl rfl) ?_
        refine VL.r (.inl rfl) rfl (by decide) (yr_pick_t rfl rfl rfl) ?_
        refine VL.r (.inl rfl) rfl (by decide) (yr_assign rfl rfl) ?_
        refine VL.nil ?_
        refine VE.then_wp ?_
        refine V.ret ?_
        refine VE.then_ret ?_
        refine ret1 rfl rfl (fun w1 hw => ?_)
        refine ⟨?_, hw.below⟩
        simp only [fne_self, isz_of_feq0 hx, isz_of_feq0 hy] at *
        first
          | exact congrArg Value.bool (same_nanx hx hy (by assumption))
          | exact congrArg Value.bool (same_nany (by assumption) (by assumption)).symm
          | (exfalso; simp_all; done)
          | exact congrArg Value.bool (same_zero hx hy (by assumption) (by assumption))
          | exact congrArg Value.bool (same_eq hx hy (by assumption) (by assumption) (.inl (by assumption)))
          | exact congrArg Value.bool (same_eq hx hy (by assumption) (by assumption) (.inr (by assumption)))
      · skip
        refine VL.no rfl rfl rfl rfl rfl (by decide) ?_
        refine VL.no rfl rfl rfl rfl rfl (by decide) ?_
        refine VL.no rfl rfl rfl rfl rfl (by decide) ?_
        refine VL.r (.inl rfl) rfl (by decide) (yr_pick_f (u := .bool false) rfl rfl rfl) ?_
        refine VL.r (.inl rfl) rfl (by decide) (yr_assign rfl rfl) ?_
        refine VL.nil ?_
        refine VE.then_wp ?_
        refine V.ret ?_
        refine VE.then_ret ?_
        refine ret1 rfl rfl (fun w1 hw => ?_)
        refine ⟨?_, hw.below⟩
        simp only [fne_self, isz_of_feq0 hx, isz_of_feq0 hy] at *
        first
          | exact congrArg Value.bool (same_nanx hx hy (by assumption))
          | exact congrArg Value.bool (same_nany (by assumption) (by assumption)).symm
          | (exfalso; simp_all; done)
          | exact congrArg Value.bool (same_zero hx hy (by assumption) (by assumption))
          | exact congrArg Value.bool (same_eq hx hy (by assumption) (by assumption) (.inl (by assumption)))
          | exact congrArg Value.bool (same_eq hx hy (by assumption) (by assumption) (.inr (by assumption)))
    · skip
      refine V.skip ?_
      refine VE.then_wp ?_
      refine V.seq ?_
      refine V.seq ?_
      refine V.region ?_
      refine VL.r (.inl rfl) rfl (by decide) (yr_move rfl rfl) ?_
      refine VL.r (.inl rfl) rfl (by decide) (yr_fcmp (b := 0) rfl (.inl rfl) rfl rfl) ?_
      refine VL.r (.inl rfl) rfl (by decide) (yr_move rfl rfl) ?_
      refine VX.split 23 _ rfl (fun h6 => ?_) (fun h6 => ?_)
      · skip
        refine VL.r (.inr ⟨_, _, _, rfl, rfl, rfl⟩) rfl (by decide) (yr_move rfl rfl) ?_
        refine VL.r (.inr ⟨_, _, _, rfl, rfl, rfl⟩) rfl (by decide) (yr_fcmp (b := 0) rfl (.inl rfl) rfl rfl) ?_
        refine VL.r (.inl rfl) rfl (by decide) (yr_pick_t rfl rfl rfl) ?_
        refine VL.nil ?_
        refine VE.then_wp ?_
        refine V.cond rfl (fun h7 => ?_) (fun h7 => ?_)
        · skip
          refine V.seq ?_
          refine V.region ?_
          refine VL.r (.inl rfl) rfl (by decide) (yr_move rfl rfl) ?_
          refine VL.r (.inl rfl) rfl (by decide) (yr_float (a := 4607182418800017408) rfl (.inr (.inr (.inr rfl))) rfl rfl) ?_
          refine VL.r (.inl rfl) rfl (by decide) (yr_fcmp (b := 0) rfl (.inr (.inr (.inr (.inr (.inl rfl))))) rfl rfl) ?_
          refine VL.r (.inl rfl) rfl (by decide) (yr_move rfl rfl) ?_
          refine VL.r (.inl rfl) rfl (by decide) (yr_float (a := 4607182418800017408) rfl (.inr (.inr (.inr rfl))) rfl rfl) ?_
          refine VL.r (.inl rfl) rfl (by decide) (yr_fcmp (b := 0) rfl (.inr (.inr (.inr (.inr (.inl rfl))))) rfl rfl) ?_
          refine VL.r (.inl rfl) rfl (by decide) (yr_bcmp rfl Try.underlying4 rfl rfl (.inl rfl)) ?_
          refine VL.r (.inl rfl) rfl (by decide) (yr_assign rfl rfl) ?_
          refine VL.nil ?_
          refine VE.then_wp ?_
          refine V.ret ?_
          refine VE.then_ret ?_
          refine ret1 rfl rfl (fun w1 hw => ?_)
          refine ⟨?_, hw.below⟩
          simp only [fne_self, isz_of_feq0 hx, isz_of_feq0 hy] at *
          first
            | exact congrArg Value.bool (same_nanx hx hy (by assumption))
            | exact congrArg Value.bool (same_nany (by assumption) (by assumption)).symm
            | (exfalso; simp_all; done)
            | exact congrArg Value.bool (same_zero hx hy (by assumption) (by assumption))
            | exact congrArg Value.bool (same_eq hx hy (by assumption) (by assumption) (.inl (by assumption)))
            | exact congrArg Value.bool (same_eq hx hy (by assumption) (by assumption) (.inr (by assumption)))
        · skip
          refine V.skip ?_
          refine VE.then_wp ?_
          refine V.seq ?_
          refine V.region ?_
          refine VL.r (.inl rfl) rfl (by decide) (yr_move rfl rfl) ?_
          refine VL.r (.inl rfl) rfl (by decide) (yr_move rfl rfl) ?_
          refine VL.r (.inl rfl) rfl (by decide) (yr_fcmp rfl (.inl rfl) rfl rfl) ?_
          refine VL.r (.inl rfl) rfl (by decide) (yr_assign rfl rfl) ?_
          refine VL.nil ?_
          refine VE.then_wp ?_
          refine V.ret ?_
          refine ret1 rfl rfl (fun w1 hw => ?_)
          refine ⟨?_, hw.below⟩
          simp only [fne_self, isz_of_feq0 hx, isz_of_feq0 hy] at *
          first
            | exact congrArg Value.bool (same_nanx hx hy (by assumption))
            | exact congrArg Value.bool (same_nany (by assumption) (by assumption)).symm
            | (exfalso; simp_all; done)
            | exact congrArg Value.bool (same_zero hx hy (by assumption) (by assumption))
            | exact congrArg Value.bool (same_eq hx hy (by assumption) (by assumption) (.inl (by assumption)))
            | exact congrArg Value.bool (same_eq hx hy (by assumption) (by assumption) (.inr (by assumption)))
      · skip
        refine VL.no rfl rfl rfl rfl rfl (by decide) ?_
        refine VL.no rfl rfl rfl rfl rfl (by decide) ?_
        refine VL.r (.inl rfl) rfl (by decide) (yr_pick_f (u := .bool false) rfl rfl rfl) ?_
        refine VL.nil ?_
        refine VE.then_wp ?_
        refine V.condF rfl ?_
        refine V.skip ?_
        refine VE.then_wp ?_
        refine V.seq ?_
        refine V.region ?_
        refine VL.r (.inl rfl) rfl (by decide) (yr_move rfl rfl) ?_
        refine VL.r (.inl rfl) rfl (by decide) (yr_move rfl rfl) ?_
        refine VL.r (.inl rfl) rfl (by decide) (yr_fcmp rfl (.inl rfl) rfl rfl) ?_
        refine VL.r (.inl rfl) rfl (by decide) (yr_assign rfl rfl) ?_
        refine VL.nil ?_
        refine VE.then_wp ?_
        refine V.ret ?_
        refine ret1 rfl rfl (fun w1 hw => ?_)
        refine ⟨?_, hw.below⟩
        simp only [fne_self, isz_of_feq0 hx, isz_of_feq0 hy] at *
        first
          | exact congrArg Value.bool (same_nanx hx hy (by assumption))
          | exact congrArg Value.bool (same_nany (by assumption) (by assumption)).symm
          | (exfalso; simp_all; done)
          | exact congrArg Value.bool (same_zero hx hy (by assumption) (by assumption))
          | exact congrArg Value.bool (same_eq hx hy (by assumption) (by assumption) (.inl (by assumption)))
          | exact congrArg Value.bool (same_eq hx hy (by assumption) (by assumption) (.inr (by assumption)))

end Go.Proofs.Ytnommdpgmoljcaa


namespace Go.Proofs.Ytnommdpgmoljcaa
open Go.RowKit
set_option linter.unusedVariables false
set_option linter.unusedSimpArgs false
set_option maxRecDepth 20000




end Go.Proofs.Ytnommdpgmoljcaa


namespace Go.Proofs.Ytnommdpgmoljcaa
open Go.RowKit
set_option linter.unusedVariables false
set_option linter.unusedSimpArgs false
set_option maxRecDepth 20000




end Go.Proofs.Ytnommdpgmoljcaa


namespace Go.Proofs.Ytnommdpgmoljcaa
open Go.RowKit
set_option linter.unusedVariables false
set_option linter.unusedSimpArgs false
set_option maxRecDepth 20000




end Go.Proofs.Ytnommdpgmoljcaa


namespace Go.Proofs.Ytnommdpgmoljcaa

end Go.Proofs.Ytnommdpgmoljcaa


namespace Go.Proofs.Ytnommdpgmoljcaa
open Go.RowKit
set_option linter.unusedVariables false
set_option linter.unusedSimpArgs false
set_option maxRecDepth 20000

end Go.Proofs.Ytnommdpgmoljcaa


namespace Go.Proofs.Ytnommdpgmoljcaa
open Go.RowKit
set_option linter.unusedVariables false
set_option linter.unusedSimpArgs false
set_option maxRecDepth 20000



theorem c_l00In {w : World} {n lo hi : Int} : Pure Try.prog 81 [.int .i64 n, .int .i64 lo, .int .i64 hi] w (.bool (decide (lo ≤ n ∧ n ≤ hi))) := by
  refine Pure.enter Try.func81 rfl Try.ntmps81 (Nat.le_of_ble_eq_true rfl) ?_
  refine V.seq ?_
  refine V.region ?_
  refine VL.r (.inl rfl) rfl (by decide) (yr_assign (u := .bool false) rfl rfl) ?_
  refine VL.nil ?_
  refine VE.then_wp ?_
  refine V.seq ?_
  refine V.region ?_
  refine VL.r (.inl rfl) rfl (by decide) (yr_move rfl rfl) ?_
  refine VL.r (.inl rfl) rfl (by decide) (yr_move rfl rfl) ?_
  refine VL.r (.inl rfl) rfl (by decide) (yr_icmp rfl (.inr (.inr (.inr (.inr (.inr rfl))))) rfl rfl) ?_
  refine VL.r (.inl rfl) rfl (by decide) (yr_move rfl rfl) ?_
  refine VX.split 10 _ rfl (fun h1 => ?_) (fun h1 => ?_)
  · skip
    replace h1 := ic_geq h1
    refine VL.r (.inr ⟨_, _, _, rfl, rfl, rfl⟩) rfl (by decide) (yr_move rfl rfl) ?_
    refine VL.r (.inr ⟨_, _, _, rfl, rfl, rfl⟩) rfl (by decide) (yr_move rfl rfl) ?_
    refine VL.r (.inr ⟨_, _, _, rfl, rfl, rfl⟩) rfl (by decide) (yr_icmp rfl (.inr (.inr (.inr (.inl rfl)))) rfl rfl) ?_
    refine VL.r (.inl rfl) rfl (by decide) (yr_pick_t rfl rfl rfl) ?_
    refine VL.r (.inl rfl) rfl (by decide) (yr_assign rfl rfl) ?_
    refine VL.nil ?_
    refine VE.then_wp ?_
    refine V.ret ?_
    refine ret1 rfl rfl (fun w1 hw => ?_)
    exact ⟨congrArg Value.bool (in_t (by assumption)), hw.below⟩
  · skip
    replace h1 := ic_geq' h1
    refine VL.no rfl rfl rfl rfl rfl (by decide) ?_
    refine VL.no rfl rfl rfl rfl rfl (by decide) ?_
    refine VL.no rfl rfl rfl rfl rfl (by decide) ?_
    refine VL.r (.inl rfl) rfl (by decide) (yr_pick_f (u := .bool false) rfl rfl rfl) ?_
    refine VL.r (.inl rfl) rfl (by decide) (yr_assign rfl rfl) ?_
    refine VL.nil ?_
    refine VE.then_wp ?_
    refine V.ret ?_
    refine ret1 rfl rfl (fun w1 hw => ?_)
    exact ⟨congrArg Value.bool (in_f (by assumption)), hw.below⟩

theorem c_within {w : World} {n lo hi : Int} : Pure Try.prog 87 [.int .i64 n, .int .i64 lo, .int .i64 hi] w (.bool (decide (lo ≤ n ∧ n ≤ hi))) := by
  refine Pure.enter Try.func87 rfl Try.ntmps87 (Nat.le_of_ble_eq_true rfl) ?_
  refine V.seq ?_
  refine V.region ?_
  refine VL.r (.inl rfl) rfl (by decide) (yr_assign (u := .bool false) rfl rfl) ?_
  refine VL.nil ?_
  refine VE.then_wp ?_
  refine V.seq ?_
  refine V.region ?_
  refine VL.r (.inl rfl) rfl (by decide) (yr_move rfl rfl) ?_
  refine VL.r (.inl rfl) rfl (by decide) (yr_move rfl rfl) ?_
  refine VL.r (.inl rfl) rfl (by decide) (yr_icmp rfl (.inr (.inr (.inr (.inr (.inr rfl))))) rfl rfl) ?_
  refine VL.r (.inl rfl) rfl (by decide) (yr_move rfl rfl) ?_
  refine VX.split 10 _ rfl (fun h1 => ?_) (fun h1 => ?_)
  · skip
    replace h1 := ic_geq h1
    refine VL.r (.inr ⟨_, _, _, rfl, rfl, rfl⟩) rfl (by decide) (yr_move rfl rfl) ?_
    refine VL.r (.inr ⟨_, _, _, rfl, rfl, rfl⟩) rfl (by decide) (yr_move rfl rfl) ?_
    refine VL.r (.inr ⟨_, _, _, rfl, rfl, rfl⟩) rfl (by decide) (yr_icmp rfl (.inr (.inr (.inr (.inl rfl)))) rfl rfl) ?_
    refine VL.r (.inl rfl) rfl (by decide) (yr_pick_t rfl rfl rfl) ?_
    refine VL.r (.inl rfl) rfl (by decide) (yr_assign rfl rfl) ?_
    refine VL.nil ?_
    refine VE.then_wp ?_
    refine V.ret ?_
    refine ret1 rfl rfl (fun w1 hw => ?_)
    exact ⟨congrArg Value.bool (in_t (by assumption)), hw.below⟩
  · skip
    replace h1 := ic_geq' h1
    refine VL.no rfl rfl rfl rfl rfl (by decide) ?_
    refine VL.no rfl rfl rfl rfl rfl (by decide) ?_
    refine VL.no rfl rfl rfl rfl rfl (by decide) ?_
    refine VL.r (.inl rfl) rfl (by decide) (yr_pick_f (u := .bool false) rfl rfl rfl) ?_
    refine VL.r (.inl rfl) rfl (by decide) (yr_assign rfl rfl) ?_
    refine VL.nil ?_
    refine VE.then_wp ?_
    refine V.ret ?_
    refine ret1 rfl rfl (fun w1 hw => ?_)
    exact ⟨congrArg Value.bool (in_f (by assumption)), hw.below⟩

end Go.Proofs.Ytnommdpgmoljcaa


namespace Go.Proofs.Ytnommdpgmoljcaa
open Go.RowKit
set_option linter.unusedVariables false
set_option linter.unusedSimpArgs false
set_option maxRecDepth 20000

theorem zero27_Vec : (Try.prog.info? 27).bind (·.zero) = some (Value.agg #[Value.float .f32 0, Value.float .f32 0, Value.float .f32 0]) := by kernel_rfl
theorem sz23_Vec : (Try.prog.info? 23).map (·.size) = some 1 := by kernel_rfl
theorem fb23_Vec : flatB Try.prog 23 = true := by kernel_rfl
theorem lay27_Vec : Lay Try.prog 27 [Value.float .f32 0, Value.float .f32 0, Value.float .f32 0] [(0, 1), (1, 1), (2, 1)] := Lay.mk' (by kernel_rfl) (by kernel_rfl)
theorem sz27_Vec : (Try.prog.info? 27).map (·.size) = some 3 := by kernel_rfl
theorem known97_Vec : Known Try.prog 97 := Known.mk' Try.func97 (by kernel_rfl)
theorem known80_Vec : Known Try.prog 80 := Known.mk' Try.func80 (by kernel_rfl)
attribute [local irreducible] fop fcmp fconv sqrt32 fneg

theorem c_add3S {w : World} {x1 x2 x3 y1 y2 y3 : Nat} : Pure Try.prog 82 [vv (x1, x2, x3), vv (y1, y2, y3)] w (vv (add3 (x1, x2, x3) (y1, y2, y3))) := by
  refine Pure.enter Try.func82 rfl Try.ntmps82 (Nat.le_of_ble_eq_true rfl) ?_
  refine V.seq ?_
  refine V.region ?_
  refine VL.new1 (.inl rfl) rfl (by decide) (yn_box rfl rfl (.inr ⟨rfl, rfl⟩)) ?_
  intro b2
  refine VL.new1 (.inl rfl) rfl (by decide) (yn_box rfl rfl (.inr ⟨rfl, rfl⟩)) ?_
  intro b3
  refine VL.new1 (.inl rfl) rfl (by decide) (yn_alloc rfl zero27_Vec rfl) ?_
  intro b4
  refine VL.nil ?_
  refine VE.then_wp ?_
  refine V.seq ?_
  refine V.region ?_
  refine VL.r (.inl rfl) rfl (by decide) (yr_fieldAddr rfl Try.underlying27 rfl rfl sz23_Vec (by decide) rfl) ?_
  refine VL.q (.inl rfl) rfl (by decide) (yq_load rfl fb23_Vec rfl (by first | exact Sees.root (by assumption) | exact Sees.own (by repeat (first | exact List.mem_cons_self | exact List.mem_append_left _ (by assumption) | apply List.mem_cons_of_mem | apply List.mem_append_right)) | exact Sees.root (hR _ (by omega)) | exact Sees.own (RowsIn.mem (by repeat (first | exact RowsIn.here | exact RowsIn.last | apply RowsIn.there | apply RowsIn.thereS)) _ (by omega)) | exact Sees.own (WRowsIn.mem (by repeat (first | exact WRowsIn.here | exact WRowsIn.last | apply WRowsIn.there | apply WRowsIn.thereS)) _ (by omega))) rfl) ?_
  refine VL.r (.inl rfl) rfl (by decide) (yr_fieldAddr rfl Try.underlying27 rfl rfl sz23_Vec (by decide) rfl) ?_
  refine VL.q (.inl rfl) rfl (by decide) (yq_load rfl fb23_Vec rfl (by first | exact Sees.root (by assumption) | exact Sees.own (by repeat (first | exact List.mem_cons_self | exact List.mem_append_left _ (by assumption) | apply List.mem_cons_of_mem | apply List.mem_append_right)) | exact Sees.root (hR _ (by omega)) | exact Sees.own (RowsIn.mem (by repeat (first | exact RowsIn.here | exact RowsIn.last | apply RowsIn.there | apply RowsIn.thereS)) _ (by omega)) | exact Sees.own (WRowsIn.mem (by repeat (first | exact WRowsIn.here | exact WRowsIn.last | apply WRowsIn.there | apply WRowsIn.thereS)) _ (by omega))) rfl) ?_
  refine VL.r (.inl rfl) rfl (by decide) (yr_float rfl (.inl rfl) rfl rfl) ?_
  refine VL.r (.inl rfl) rfl (by decide) (yr_fieldAddr rfl Try.underlying27 rfl rfl sz23_Vec (by decide) rfl) ?_
  refine VL.q (.inl rfl) rfl (by decide) (yq_load rfl fb23_Vec rfl (by first | exact Sees.root (by assumption) | exact Sees.own (by repeat (first | exact List.mem_cons_self | exact List.mem_append_left _ (by assumption) | apply List.mem_cons_of_mem | apply List.mem_append_right)) | exact Sees.root (hR _ (by omega)) | exact Sees.own (RowsIn.mem (by repeat (first | exact RowsIn.here | exact RowsIn.last | apply RowsIn.there | apply RowsIn.thereS)) _ (by omega)) | exact Sees.own (WRowsIn.mem (by repeat (first | exact WRowsIn.here | exact WRowsIn.last | apply WRowsIn.there | apply WRowsIn.thereS)) _ (by omega))) rfl) ?_
  refine VL.r (.inl rfl) rfl (by decide) (yr_fieldAddr rfl Try.underlying27 rfl rfl sz23_Vec (by decide) rfl) ?_
  refine VL.q (.inl rfl) rfl (by decide) (yq_load rfl fb23_Vec rfl (by first | exact Sees.root (by assumption) | exact Sees.own (by repeat (first | exact List.mem_cons_self | exact List.mem_append_left _ (by assumption) | apply List.mem_cons_of_mem | apply List.mem_append_right)) | exact Sees.root (hR _ (by omega)) | exact Sees.own (RowsIn.mem (by repeat (first | exact RowsIn.here | exact RowsIn.last | apply RowsIn.there | apply RowsIn.thereS)) _ (by omega)) | exact Sees.own (WRowsIn.mem (by repeat (first | exact WRowsIn.here | exact WRowsIn.last | apply WRowsIn.there | apply WRowsIn.thereS)) _ (by omega))) rfl) ?_
  refine VL.r (.inl rfl) rfl (by decide) (yr_float rfl (.inl rfl) rfl rfl) ?_
  refine VL.r (.inl rfl) rfl (by decide) (yr_fieldAddr rfl Try.underlying27 rfl rfl sz23_Vec (by decide) rfl) ?_
  refine VL.q (.inl rfl) rfl (by decide) (yq_load rfl fb23_Vec rfl (by first | exact Sees.root (by assumption) | exact Sees.own (by repeat (first | exact List.mem_cons_self | exact List.mem_append_left _ (by assumption) | apply List.mem_cons_of_mem | apply List.mem_append_right)) | exact Sees.root (hR _ (by omega)) | exact Sees.own (RowsIn.mem (by repeat (first | exact RowsIn.here | exact RowsIn.last | apply RowsIn.there | apply RowsIn.thereS)) _ (by omega)) | exact Sees.own (WRowsIn.mem (by repeat (first | exact WRowsIn.here | exact WRowsIn.last | apply WRowsIn.there | apply WRowsIn.thereS)) _ (by omega))) rfl) ?_
  refine VL.r (.inl rfl) rfl (by decide) (yr_fieldAddr rfl Try.underlying27 rfl rfl sz23_Vec (by decide) rfl) ?_
  refine VL.q (.inl rfl) rfl (by decide) (yq_load rfl fb23_Vec rfl (by first | exact Sees.root (by assumption) | exact Sees.own (by repeat (first | exact List.mem_cons_self | exact List.mem_append_left _ (by assumption) | apply List.mem_cons_of_mem | apply List.mem_append_right)) | exact Sees.root (hR _ (by omega)) | exact Sees.own (RowsIn.mem (by repeat (first | exact RowsIn.here | exact RowsIn.last | apply RowsIn.there | apply RowsIn.thereS)) _ (by omega)) | exact Sees.own (WRowsIn.mem (by repeat (first | exact WRowsIn.here | exact WRowsIn.last | apply WRowsIn.there | apply WRowsIn.thereS)) _ (by omega))) rfl) ?_
  refine VL.r (.inl rfl) rfl (by decide) (yr_float rfl (.inl rfl) rfl rfl) ?_
  refine VL.r (.inl rfl) rfl (by decide) (yr_build rfl lay27_Vec rfl (.cons rfl (.cons rfl (.cons rfl .nil))) (by first | (simp; done) | (simp [vv]; done) | (simp [cn, cn1, cn0]; done)) rfl) ?_
  refine VL.s (.inl rfl) rfl (yc_store rfl sz27_Vec rfl rfl (by repeat (first | exact UpdF.here | apply UpdF.there | apply UpdF.thereS)) (.inr ⟨rfl, rfl⟩) rfl (by first | exact Nat.le_of_ble_eq_true rfl | simp) (by decide) rfl) ?_
  rintro ⟨⟩
  refine VL.nil ?_
  refine VE.then_wp ?_
  refine V.ret ?_
  refine retC rfl (rv_cellS rfl Try.underlying27 sz27_Vec (by first | exact Sees.root (by assumption) | exact Sees.own (by repeat (first | exact List.mem_cons_self | exact List.mem_append_left _ (by assumption) | apply List.mem_cons_of_mem | apply List.mem_append_right)) | exact Sees.root (hR _ (by omega)) | exact Sees.own (RowsIn.mem (by repeat (first | exact RowsIn.here | exact RowsIn.last | apply RowsIn.there | apply RowsIn.thereS)) _ (by omega)) | exact Sees.own (WRowsIn.mem (by repeat (first | exact WRowsIn.here | exact WRowsIn.last | apply WRowsIn.there | apply WRowsIn.thereS)) _ (by omega))) rfl rfl rfl) (by nofun) (fun w1 hw => ?_)
  exact ⟨rfl, hw.below⟩

theorem c_fin3 {w : World} {x1 x2 x3 : Nat} : Pure Try.prog 75 [vv (x1, x2, x3)] w (.bool (fin3 (x1, x2, x3))) := by
  refine Pure.enter Try.func75 rfl Try.ntmps75 (Nat.le_of_ble_eq_true rfl) ?_
  refine V.seq ?_
  refine V.region ?_
  refine VL.new1 (.inl rfl) rfl (by decide) (yn_box rfl rfl (.inr ⟨rfl, rfl⟩)) ?_
  intro b1
  refine VL.r (.inl rfl) rfl (by decide) (yr_assign (u := .bool false) rfl rfl) ?_
  refine VL.nil ?_
  refine VE.then_wp ?_
  refine V.seq ?_
  refine V.region ?_
  refine VL.r (.inl rfl) rfl (by decide) (yr_fieldAddr rfl Try.underlying27 rfl rfl sz23_Vec (by decide) rfl) ?_
  refine VL.q (.inl rfl) rfl (by decide) (yq_load rfl fb23_Vec rfl (by first | exact Sees.root (by assumption) | exact Sees.own (by repeat (first | exact List.mem_cons_self | exact List.mem_append_left _ (by assumption) | apply List.mem_cons_of_mem | apply List.mem_append_right)) | exact Sees.root (hR _ (by omega)) | exact Sees.own (RowsIn.mem (by repeat (first | exact RowsIn.here | exact RowsIn.last | apply RowsIn.there | apply RowsIn.thereS)) _ (by omega)) | exact Sees.own (WRowsIn.mem (by repeat (first | exact WRowsIn.here | exact WRowsIn.last | apply WRowsIn.there | apply WRowsIn.thereS)) _ (by omega))) rfl) ?_
  refine VL.q (.inl rfl) rfl (by decide) (yq_callf rfl known97_Vec (.cons rfl .nil) (fun w hw => c_IsFinite _)) ?_
  refine VL.r (.inl rfl) rfl (by decide) (yr_move rfl rfl) ?_
  refine VX.split 6 _ rfl (fun h1 => ?_) (fun h1 => ?_)
  · skip
    refine VL.r (.inr ⟨_, _, _, rfl, rfl, rfl⟩) rfl (by decide) (yr_fieldAddr rfl Try.underlying27 rfl rfl sz23_Vec (by decide) rfl) ?_
    refine VL.q (.inr ⟨_, _, _, rfl, rfl, rfl⟩) rfl (by decide) (yq_load rfl fb23_Vec rfl (by first | exact Sees.root (by assumption) | exact Sees.own (by repeat (first | exact List.mem_cons_self | exact List.mem_append_left _ (by assumption) | apply List.mem_cons_of_mem | apply List.mem_append_right)) | exact Sees.root (hR _ (by omega)) | exact Sees.own (RowsIn.mem (by repeat (first | exact RowsIn.here | exact RowsIn.last | apply RowsIn.there | apply RowsIn.thereS)) _ (by omega)) | exact Sees.own (WRowsIn.mem (by repeat (first | exact WRowsIn.here | exact WRowsIn.last | apply WRowsIn.there | apply WRowsIn.thereS)) _ (by omega))) rfl) ?_
    refine VL.q (.inr ⟨_, _, _, rfl, rfl, rfl⟩) rfl (by decide) (yq_callf rfl known97_Vec (.cons rfl .nil) (fun w hw => c_IsFinite _)) ?_
    refine VL.r (.inl rfl) rfl (by decide) (yr_pick_t rfl rfl rfl) ?_
    refine VL.r (.inl rfl) rfl (by decide) (yr_move rfl rfl) ?_
    refine VX.split 11 _ rfl (fun h2 => ?_) (fun h2 => ?_)
    · skip
      refine VL.r (.inr ⟨_, _, _, rfl, rfl, rfl⟩) rfl (by decide) (yr_fieldAddr rfl Try.underlying27 rfl rfl sz23_Vec (by decide) rfl) ?_
      refine VL.q (.inr ⟨_, _, _, rfl, rfl, rfl⟩) rfl (by decide) (yq_load rfl fb23_Vec rfl (by first | exact Sees.root (by assumption) | exact Sees.own (by repeat (first | exact List.mem_cons_self | exact List.mem_append_left _ (by assumption) | apply List.mem_cons_of_mem | apply List.mem_append_right)) | exact Sees.root (hR _ (by omega)) | exact Sees.own (RowsIn.mem (by repeat (first | exact RowsIn.here | exact RowsIn.last | apply RowsIn.there | apply RowsIn.thereS)) _ (by omega)) | exact Sees.own (WRowsIn.mem (by repeat (first | exact WRowsIn.here | exact WRowsIn.last | apply WRowsIn.there | apply WRowsIn.thereS)) _ (by omega))) rfl) ?_
      refine VL.q (.inr ⟨_, _, _, rfl, rfl, rfl⟩) rfl (by decide) (yq_callf rfl known97_Vec (.cons rfl .nil) (fun w hw => c_IsFinite _)) ?_
      refine VL.r (.inl rfl) rfl (by decide) (yr_pick_t rfl rfl rfl) ?_
      refine VL.r (.inl rfl) rfl (by decide) (yr_assign rfl rfl) ?_
      refine VL.nil ?_
      refine VE.then_wp ?_
      refine V.ret ?_
      refine ret1 rfl rfl (fun w1 hw => ?_)
      first
        | (exact ⟨congrArg Value.bool (fin3_t (a := (x1, x2, x3)) (by assumption) (by assumption)), hw.below⟩)
        | (exact ⟨congrArg Value.bool (fin3_f1 (a := (x1, x2, x3)) (by assumption)), hw.below⟩)
        | (exact ⟨congrArg Value.bool (fin3_f2 (a := (x1, x2, x3)) (by assumption) (by assumption)), hw.below⟩)
    · skip
      refine VL.no rfl rfl rfl rfl rfl (by decide) ?_
      refine VL.no rfl rfl rfl rfl rfl (by decide) ?_
      refine VL.no rfl rfl rfl rfl rfl (by decide) ?_
      refine VL.r (.inl rfl) rfl (by decide) (yr_pick_f (u := .bool false) rfl rfl rfl) ?_
      refine VL.r (.inl rfl) rfl (by decide) (yr_assign rfl rfl) ?_
      refine VL.nil ?_
      refine VE.then_wp ?_
      refine V.ret ?_
      refine ret1 rfl rfl (fun w1 hw => ?_)
      first
        | (exact ⟨congrArg Value.bool (fin3_t (a := (x1, x2, x3)) (by assumption) (by assumption)), hw.below⟩)
        | (exact ⟨congrArg Value.bool (fin3_f1 (a := (x1, x2, x3)) (by assumption)), hw.below⟩)
        | (exact ⟨congrArg Value.bool (fin3_f2 (a := (x1, x2, x3)) (by assumption) (by assumption)), hw.below⟩)
  · skip
    refine VL.no rfl rfl rfl rfl rfl (by decide) ?_
    refine VL.no rfl rfl rfl rfl rfl (by decide) ?_
    refine VL.no rfl rfl rfl rfl rfl (by decide) ?_
    refine VL.r (.inl rfl) rfl (by decide) (yr_pick_f (u := .bool false) rfl rfl rfl) ?_
    refine VL.r (.inl rfl) rfl (by decide) (yr_move rfl rfl) ?_
    refine VL.no rfl rfl rfl rfl rfl (by decide) ?_
    refine VL.no rfl rfl rfl rfl rfl (by decide) ?_
    refine VL.no rfl rfl rfl rfl rfl (by decide) ?_
    refine VL.r (.inl rfl) rfl (by decide) (yr_pick_f (u := .bool false) rfl rfl rfl) ?_
    refine VL.r (.inl rfl) rfl (by decide) (yr_assign rfl rfl) ?_
    refine VL.nil ?_
    refine VE.then_wp ?_
    refine V.ret ?_
    refine ret1 rfl rfl (fun w1 hw => ?_)
    first
      | (exact ⟨congrArg Value.bool (fin3_t (a := (x1, x2, x3)) (by assumption) (by assumption)), hw.below⟩)
      | (exact ⟨congrArg Value.bool (fin3_f1 (a := (x1, x2, x3)) (by assumption)), hw.below⟩)
      | (exact ⟨congrArg Value.bool (fin3_f2 (a := (x1, x2, x3)) (by assumption) (by assumption)), hw.below⟩)

theorem c_fin3S {w : World} {x1 x2 x3 : Nat} : Pure Try.prog 36 [vv (x1, x2, x3)] w (.bool (fin3 (x1, x2, x3))) := by
  refine Pure.enter Try.func36 rfl Try.ntmps36 (Nat.le_of_ble_eq_true rfl) ?_
  refine V.seq ?_
  refine V.region ?_
  refine VL.new1 (.inl rfl) rfl (by decide) (yn_box rfl rfl (.inr ⟨rfl, rfl⟩)) ?_
  intro b1
  refine VL.r (.inl rfl) rfl (by decide) (yr_assign (u := .bool false) rfl rfl) ?_
  refine VL.nil ?_
  refine VE.then_wp ?_
  refine V.seq ?_
  refine V.region ?_
  refine VL.r (.inl rfl) rfl (by decide) (yr_fieldAddr rfl Try.underlying27 rfl rfl sz23_Vec (by decide) rfl) ?_
  refine VL.q (.inl rfl) rfl (by decide) (yq_load rfl fb23_Vec rfl (by first | exact Sees.root (by assumption) | exact Sees.own (by repeat (first | exact List.mem_cons_self | exact List.mem_append_left _ (by assumption) | apply List.mem_cons_of_mem | apply List.mem_append_right)) | exact Sees.root (hR _ (by omega)) | exact Sees.own (RowsIn.mem (by repeat (first | exact RowsIn.here | exact RowsIn.last | apply RowsIn.there | apply RowsIn.thereS)) _ (by omega)) | exact Sees.own (WRowsIn.mem (by repeat (first | exact WRowsIn.here | exact WRowsIn.last | apply WRowsIn.there | apply WRowsIn.thereS)) _ (by omega))) rfl) ?_
  refine VL.q (.inl rfl) rfl (by decide) (yq_callf rfl known80_Vec (.cons rfl .nil) (fun w hw => c_l01Finite _)) ?_
  refine VL.r (.inl rfl) rfl (by decide) (yr_move rfl rfl) ?_
  refine VX.split 6 _ rfl (fun h1 => ?_) (fun h1 => ?_)
  · skip
    refine VL.r (.inr ⟨_, _, _, rfl, rfl, rfl⟩) rfl (by decide) (yr_fieldAddr rfl Try.underlying27 rfl rfl sz23_Vec (by decide) rfl) ?_
    refine VL.q (.inr ⟨_, _, _, rfl, rfl, rfl⟩) rfl (by decide) (yq_load rfl fb23_Vec rfl (by first | exact Sees.root (by assumption) | exact Sees.own (by repeat (first | exact List.mem_cons_self | exact List.mem_append_left _ (by assumption) | apply List.mem_cons_of_mem | apply List.mem_append_right)) | exact Sees.root (hR _ (by omega)) | exact Sees.own (RowsIn.mem (by repeat (first | exact RowsIn.here | exact RowsIn.last | apply RowsIn.there | apply RowsIn.thereS)) _ (by omega)) | exact Sees.own (WRowsIn.mem (by repeat (first | exact WRowsIn.here | exact WRowsIn.last | apply WRowsIn.there | apply WRowsIn.thereS)) _ (by omega))) rfl) ?_
    refine VL.q (.inr ⟨_, _, _, rfl, rfl, rfl⟩) rfl (by decide) (yq_callf rfl known80_Vec (.cons rfl .nil) (fun w hw => c_l01Finite _)) ?_
    refine VL.r (.inl rfl) rfl (by decide) (yr_pick_t rfl rfl rfl) ?_
    refine VL.r (.inl rfl) rfl (by decide) (yr_move rfl rfl) ?_
    refine VX.split 11 _ rfl (fun h2 => ?_) (fun h2 => ?_)
    · skip
      refine VL.r (.inr ⟨_, _, _, rfl, rfl, rfl⟩) rfl (by decide) (yr_fieldAddr rfl Try.underlying27 rfl rfl sz23_Vec (by decide) rfl) ?_
      refine VL.q (.inr ⟨_, _, _, rfl, rfl, rfl⟩) rfl (by decide) (yq_load rfl fb23_Vec rfl (by first | exact Sees.root (by assumption) | exact Sees.own (by repeat (first | exact List.mem_cons_self | exact List.mem_append_left _ (by assumption) | apply List.mem_cons_of_mem | apply List.mem_append_right)) | exact Sees.root (hR _ (by omega)) | exact Sees.own (RowsIn.mem (by repeat (first | exact RowsIn.here | exact RowsIn.last | apply RowsIn.there | apply RowsIn.thereS)) _ (by omega)) | exact Sees.own (WRowsIn.mem (by repeat (first | exact WRowsIn.here | exact WRowsIn.last | apply WRowsIn.there | apply WRowsIn.thereS)) _ (by omega))) rfl) ?_
      refine VL.q (.inr ⟨_, _, _, rfl, rfl, rfl⟩) rfl (by decide) (yq_callf rfl known80_Vec (.cons rfl .nil) (fun w hw => c_l01Finite _)) ?_
      refine VL.r (.inl rfl) rfl (by decide) (yr_pick_t rfl rfl rfl) ?_
      refine VL.r (.inl rfl) rfl (by decide) (yr_assign rfl rfl) ?_
      refine VL.nil ?_
      refine VE.then_wp ?_
      refine V.ret ?_
      refine ret1 rfl rfl (fun w1 hw => ?_)
      first
        | (exact ⟨congrArg Value.bool (fin3_t (a := (x1, x2, x3)) (by assumption) (by assumption)), hw.below⟩)
        | (exact ⟨congrArg Value.bool (fin3_f1 (a := (x1, x2, x3)) (by assumption)), hw.below⟩)
        | (exact ⟨congrArg Value.bool (fin3_f2 (a := (x1, x2, x3)) (by assumption) (by assumption)), hw.below⟩)
    · skip
      refine VL.no rfl rfl rfl rfl rfl (by decide) ?_
      refine VL.no rfl rfl rfl rfl rfl (by decide) ?_
      refine VL.no rfl rfl rfl rfl rfl (by decide) ?_
      refine VL.r (.inl rfl) rfl (by decide) (yr_pick_f (u := .bool false) rfl rfl rfl) ?_
      refine VL.r (.inl rfl) rfl (by decide) (yr_assign rfl rfl) ?_
      refine VL.nil ?_
      refine VE.then_wp ?_
      refine V.ret ?_
      refine ret1 rfl rfl (fun w1 hw => ?_)
      first
        | (exact ⟨congrArg Value.bool (fin3_t (a := (x1, x2, x3)) (by assumption) (by assumption)), hw.below⟩)
        | (exact ⟨congrArg Value.bool (fin3_f1 (a := (x1, x2, x3)) (by assumption)), hw.below⟩)
        | (exact ⟨congrArg Value.bool (fin3_f2 (a := (x1, x2, x3)) (by assumption) (by assumption)), hw.below⟩)
  · skip
    refine VL.no rfl rfl rfl rfl rfl (by decide) ?_
    refine VL.no rfl rfl rfl rfl rfl (by decide) ?_
    refine VL.no rfl rfl rfl rfl rfl (by decide) ?_
    refine VL.r (.inl rfl) rfl (by decide) (yr_pick_f (u := .bool false) rfl rfl rfl) ?_
    refine VL.r (.inl rfl) rfl (by decide) (yr_move rfl rfl) ?_
    refine VL.no rfl rfl rfl rfl rfl (by decide) ?_
    refine VL.no rfl rfl rfl rfl rfl (by decide) ?_
    refine VL.no rfl rfl rfl rfl rfl (by decide) ?_
    refine VL.r (.inl rfl) rfl (by decide) (yr_pick_f (u := .bool false) rfl rfl rfl) ?_
    refine VL.r (.inl rfl) rfl (by decide) (yr_assign rfl rfl) ?_
    refine VL.nil ?_
    refine VE.then_wp ?_
    refine V.ret ?_
    refine ret1 rfl rfl (fun w1 hw => ?_)
    first
      | (exact ⟨congrArg Value.bool (fin3_t (a := (x1, x2, x3)) (by assumption) (by assumption)), hw.below⟩)
      | (exact ⟨congrArg Value.bool (fin3_f1 (a := (x1, x2, x3)) (by assumption)), hw.below⟩)
      | (exact ⟨congrArg Value.bool (fin3_f2 (a := (x1, x2, x3)) (by assumption) (by assumption)), hw.below⟩)

end Go.Proofs.Ytnommdpgmoljcaa


namespace Go.Proofs.Ytnommdpgmoljcaa
open Go.RowKit
set_option linter.unusedVariables false
set_option linter.unusedSimpArgs false
set_option maxRecDepth 20000




end Go.Proofs.Ytnommdpgmoljcaa


namespace Go.Proofs.Ytnommdpgmoljcaa
open Go.RowKit
set_option linter.unusedVariables false
set_option linter.unusedSimpArgs false
set_option maxRecDepth 20000

attribute [local irreducible] fop fcmp fconv sqrt32 fneg

end Go.Proofs.Ytnommdpgmoljcaa


namespace Go.Proofs.Ytnommdpgmoljcaa
open Go.RowKit

theorem tmod_nat (i n : Nat) : ((i : Int) + 1).tmod (n : Int) = (((i + 1) % n : Nat) : Int) := by
  rw [show ((i : Int) + 1) = ((i + 1 : Nat) : Int) by omega]
  exact (Int.ofNat_tmod _ _).symm
section
variable {P : Program} {n : Nat} {w0 : World} {O : List Ent} {E : Env} {o : Oper}
end
end Go.Proofs.Ytnommdpgmoljcaa


namespace Go.Proofs.Ytnommdpgmoljcaa
open Go.RowKit
set_option linter.unusedVariables false
set_option linter.unusedSimpArgs false
set_option maxRecDepth 20000

theorem zero27_WLaw : (Try.prog.info? 27).bind (·.zero) = some (Value.agg #[Value.float .f32 0, Value.float .f32 0, Value.float .f32 0]) := by kernel_rfl
theorem sz23_WLaw : (Try.prog.info? 23).map (·.size) = some 1 := by kernel_rfl
theorem fb23_WLaw : flatB Try.prog 23 = true := by kernel_rfl
theorem sz27_WLaw : (Try.prog.info? 27).map (·.size) = some 3 := by kernel_rfl
theorem elt27_WLaw : Elt Try.prog 27 [Value.float .f32 0, Value.float .f32 0, Value.float .f32 0] 12 := Elt.mk' (by kernel_rfl) (by decide)
theorem sz25_WLaw : (Try.prog.info? 25).map (·.size) = some 3 := by kernel_rfl
theorem known11_WLaw : Known Try.prog 11 := Known.mk' Try.func11 (by kernel_rfl)
theorem known33_WLaw : Known Try.prog 33 := Known.mk' Try.func33 (by kernel_rfl)
theorem mixed_WLaw : Try.prog.follows .mixedOrders = true := by kernel_rfl
theorem known49_WLaw : Known Try.prog 49 := Known.mk' Try.func49 (by kernel_rfl)
attribute [local irreducible] fop fcmp fconv sqrt32 fneg

theorem c_toVec {w : World} {x1 x2 x3 : Nat} : Pure Try.prog 11 [vv (x1, x2, x3)] w (vv (x1, x2, x3)) := by
  refine Pure.enter Try.func11 rfl Try.ntmps11 (Nat.le_of_ble_eq_true rfl) ?_
  refine V.seq ?_
  refine V.region ?_
  refine VL.new1 (.inl rfl) rfl (by decide) (yn_box rfl rfl (.inr ⟨rfl, rfl⟩)) ?_
  intro b1
  refine VL.new1 (.inl rfl) rfl (by decide) (yn_alloc rfl zero27_WLaw rfl) ?_
  intro b2
  refine VL.nil ?_
  refine VE.then_wp ?_
  refine V.seq ?_
  refine V.region ?_
  refine VL.new1 (.inl rfl) rfl (by decide) (yn_alloc rfl zero27_WLaw rfl) ?_
  intro b3
  refine VL.nil ?_
  refine VE.then_wp ?_
  refine V.seq ?_
  refine V.region ?_
  refine VL.r (.inl rfl) rfl (by decide) (yr_fieldAddr rfl Try.underlying25 rfl rfl sz23_WLaw (by decide) rfl) ?_
  refine VL.q (.inl rfl) rfl (by decide) (yq_load rfl fb23_WLaw rfl (by first | exact Sees.root (by assumption) | exact Sees.own (by repeat (first | exact List.mem_cons_self | exact List.mem_append_left _ (by assumption) | apply List.mem_cons_of_mem | apply List.mem_append_right)) | exact Sees.root (hR _ (by omega)) | exact Sees.own (RowsIn.mem (by repeat (first | exact RowsIn.here | exact RowsIn.last | apply RowsIn.there | apply RowsIn.thereS)) _ (by omega)) | exact Sees.own (WRowsIn.mem (by repeat (first | exact WRowsIn.here | exact WRowsIn.last | apply WRowsIn.there | apply WRowsIn.thereS)) _ (by omega))) rfl) ?_
  refine VL.r (.inl rfl) rfl (by decide) (yr_fieldAddr rfl Try.underlying27 rfl rfl sz23_WLaw (by decide) rfl) ?_
  refine VL.s (.inl rfl) rfl (yc_store rfl sz23_WLaw rfl rfl (by repeat (first | exact UpdF.here | apply UpdF.there | apply UpdF.thereS)) (.inl ⟨rfl, rfl⟩) rfl (by first | exact Nat.le_of_ble_eq_true rfl | simp) (by decide) rfl) ?_
  rintro ⟨⟩
  refine VL.nil ?_
  refine VE.then_wp ?_
  refine V.seq ?_
  refine V.region ?_
  refine VL.r (.inl rfl) rfl (by decide) (yr_fieldAddr rfl Try.underlying25 rfl rfl sz23_WLaw (by decide) rfl) ?_
  refine VL.q (.inl rfl) rfl (by decide) (yq_load rfl fb23_WLaw rfl (by first | exact Sees.root (by assumption) | exact Sees.own (by repeat (first | exact List.mem_cons_self | exact List.mem_append_left _ (by assumption) | apply List.mem_cons_of_mem | apply List.mem_append_right)) | exact Sees.root (hR _ (by omega)) | exact Sees.own (RowsIn.mem (by repeat (first | exact RowsIn.here | exact RowsIn.last | apply RowsIn.there | apply RowsIn.thereS)) _ (by omega)) | exact Sees.own (WRowsIn.mem (by repeat (first | exact WRowsIn.here | exact WRowsIn.last | apply WRowsIn.there | apply WRowsIn.thereS)) _ (by omega))) rfl) ?_
  refine VL.r (.inl rfl) rfl (by decide) (yr_fieldAddr rfl Try.underlying27 rfl rfl sz23_WLaw (by decide) rfl) ?_
  refine VL.s (.inl rfl) rfl (yc_store rfl sz23_WLaw rfl rfl (by repeat (first | exact UpdF.here | apply UpdF.there | apply UpdF.thereS)) (.inl ⟨rfl, rfl⟩) rfl (by first | exact Nat.le_of_ble_eq_true rfl | simp) (by decide) rfl) ?_
  rintro ⟨⟩
  refine VL.nil ?_
  refine VE.then_wp ?_
  refine V.seq ?_
  refine V.region ?_
  refine VL.r (.inl rfl) rfl (by decide) (yr_fieldAddr rfl Try.underlying25 rfl rfl sz23_WLaw (by decide) rfl) ?_
  refine VL.q (.inl rfl) rfl (by decide) (yq_load rfl fb23_WLaw rfl (by first | exact Sees.root (by assumption) | exact Sees.own (by repeat (first | exact List.mem_cons_self | exact List.mem_append_left _ (by assumption) | apply List.mem_cons_of_mem | apply List.mem_append_right)) | exact Sees.root (hR _ (by omega)) | exact Sees.own (RowsIn.mem (by repeat (first | exact RowsIn.here | exact RowsIn.last | apply RowsIn.there | apply RowsIn.thereS)) _ (by omega)) | exact Sees.own (WRowsIn.mem (by repeat (first | exact WRowsIn.here | exact WRowsIn.last | apply WRowsIn.there | apply WRowsIn.thereS)) _ (by omega))) rfl) ?_
  refine VL.r (.inl rfl) rfl (by decide) (yr_fieldAddr rfl Try.underlying27 rfl rfl sz23_WLaw (by decide) rfl) ?_
  refine VL.s (.inl rfl) rfl (yc_store rfl sz23_WLaw rfl rfl (by repeat (first | exact UpdF.here | apply UpdF.there | apply UpdF.thereS)) (.inl ⟨rfl, rfl⟩) rfl (by first | exact Nat.le_of_ble_eq_true rfl | simp) (by decide) rfl) ?_
  rintro ⟨⟩
  refine VL.nil ?_
  refine VE.then_wp ?_
  refine V.seq ?_
  refine V.region ?_
  refine VL.q (.inl rfl) rfl (by decide) (yq_loadS rfl Try.underlying27 sz27_WLaw rfl (by first | exact Sees.root (by assumption) | exact Sees.own (by repeat (first | exact List.mem_cons_self | exact List.mem_append_left _ (by assumption) | apply List.mem_cons_of_mem | apply List.mem_append_right)) | exact Sees.root (hR _ (by omega)) | exact Sees.own (RowsIn.mem (by repeat (first | exact RowsIn.here | exact RowsIn.last | apply RowsIn.there | apply RowsIn.thereS)) _ (by omega)) | exact Sees.own (WRowsIn.mem (by repeat (first | exact WRowsIn.here | exact WRowsIn.last | apply WRowsIn.there | apply WRowsIn.thereS)) _ (by omega))) rfl rfl rfl) ?_
  refine VL.s (.inl rfl) rfl (yc_store rfl sz27_WLaw rfl rfl (by repeat (first | exact UpdF.here | apply UpdF.there | apply UpdF.thereS)) (.inr ⟨rfl, rfl⟩) rfl (by first | exact Nat.le_of_ble_eq_true rfl | simp) (by decide) rfl) ?_
  rintro ⟨⟩
  refine VL.nil ?_
  refine VE.then_wp ?_
  refine V.ret ?_
  refine retC rfl (rv_cellS rfl Try.underlying27 sz27_WLaw (by first | exact Sees.root (by assumption) | exact Sees.own (by repeat (first | exact List.mem_cons_self | exact List.mem_append_left _ (by assumption) | apply List.mem_cons_of_mem | apply List.mem_append_right)) | exact Sees.root (hR _ (by omega)) | exact Sees.own (RowsIn.mem (by repeat (first | exact RowsIn.here | exact RowsIn.last | apply RowsIn.there | apply RowsIn.thereS)) _ (by omega)) | exact Sees.own (WRowsIn.mem (by repeat (first | exact WRowsIn.here | exact WRowsIn.last | apply WRowsIn.there | apply WRowsIn.thereS)) _ (by omega))) rfl rfl rfl) (by nofun) (fun w1 hw => ?_)
  exact ⟨rfl, hw.below⟩

theorem c_toVs {w : World} {a : Option Addr} {c : Nat} {vs : List V3} (hA : Cl w a (vl vs)) (hn : vs.length ≤ 1050000) : New Try.prog 61 [.slice a vs.length c] w (fun p : Nat => .slice (some ⟨p, 0, none⟩) vs.length vs.length) (fun p => [⟨some ⟨p, 0, none⟩, vl vs, vs.length * 3, 27⟩]) := by
  refine New.enter Try.func61 rfl Try.ntmps61 (Nat.le_of_ble_eq_true rfl) ?_
  refine V.seq ?_
  refine V.region ?_
  refine VL.r (.inl rfl) rfl (by decide) (yr_assign (u := .slice none 0 0) rfl rfl) ?_
  refine VL.nil ?_
  refine VE.then_wp ?_
  refine V.seq ?_
  refine V.region ?_
  refine VL.r (.inl rfl) rfl (by decide) (yr_move rfl rfl) ?_
  refine VL.r (.inl rfl) rfl (by decide) (yr_len rfl Try.underlying43 rfl) ?_
  refine VL.new1 (.inl rfl) rfl (by decide) (yn_makeSlicez 3 rfl rfl Try.underlying28 elt27_WLaw rfl rfl rfl (by omega) (by omega)) ?_
  intro b7
  refine VL.r (.inl rfl) rfl (by decide) (yr_assign rfl rfl) ?_
  refine VL.nil ?_
  refine VE.then_wp ?_
  refine V.seq ?_
  refine V.seq ?_
  refine V.region ?_
  refine VL.r (.inl rfl) rfl (by decide) (yr_assign (u := .int .i64 0) rfl rfl) ?_
  refine VL.nil ?_
  refine VE.then_wp ?_
  refine V.block ?_
  refine V.loopc (G := Nat) [(0, _), (3, _)] (fun (k : Nat) => k ≤ vs.length) (fun (k : Nat) => [⟨some ⟨b7, 0, none⟩, vlk vs k, vs.length * 3, 27⟩]) (fun (k : Nat) => [(4, .int .i64 (k : Int))]) (fun (k : Nat) => vs.length - k) 0 (.cons rfl (.cons rfl .nil)) (.cons rfl .nil) ?_ ?_ ?_
  · exact (fun w hw => by rw [vlk_zero]; exact hw)
  · exact (by omega)
  rintro k hk
  show V _ _ _ [⟨some ⟨b7, 0, none⟩, vlk vs k, vs.length * 3, 27⟩] ([(4, .int .i64 (k : Int))] ++ [(0, _), (3, _)]) _ _
  refine V.seq ?_
  refine V.seq ?_
  refine V.region ?_
  refine VL.r (.inl rfl) rfl (by decide) (yr_move rfl rfl) ?_
  refine VL.r (.inl rfl) rfl (by decide) (yr_move rfl rfl) ?_
  refine VL.r (.inl rfl) rfl (by decide) (yr_len rfl Try.underlying43 rfl) ?_
  refine VL.r (.inl rfl) rfl (by decide) (yr_icmp rfl (.inr (.inr (.inl rfl))) rfl rfl) ?_
  refine VL.nil ?_
  refine VE.then_wp ?_
  refine V.cond rfl (fun h1 => ?_) (fun h1 => ?_)
  · skip
    replace h1 := ic_lss h1
    refine V.skip ?_
    refine VE.then_wp ?_
    refine V.seq ?_
    refine V.block ?_
    refine V.region ?_
    refine VL.r (.inl rfl) rfl (by decide) (yr_move rfl rfl) ?_
    refine VL.r (.inl rfl) rfl (by decide) (yr_move rfl rfl) ?_
    refine VL.r (.inl rfl) rfl (by decide) (yr_move rfl rfl) ?_
    refine VL.r (.inl rfl) rfl (by decide) (yr_move rfl rfl) ?_
    refine VL.q (.inl rfl) rfl (by decide) (yq_idxN (k := k) rfl Try.underlying43 sz25_WLaw rfl rfl (by first | exact Sees.root (by assumption) | exact Sees.own (by repeat (first | exact List.mem_cons_self | exact List.mem_append_left _ (by assumption) | apply List.mem_cons_of_mem | apply List.mem_append_right)) | exact Sees.root (hR _ (by omega)) | exact Sees.own (RowsIn.mem (by repeat (first | exact RowsIn.here | exact RowsIn.last | apply RowsIn.there | apply RowsIn.thereS)) _ (by omega)) | exact Sees.own (WRowsIn.mem (by repeat (first | exact WRowsIn.here | exact WRowsIn.last | apply WRowsIn.there | apply WRowsIn.thereS)) _ (by omega))) (by first | rfl | omega | (push_cast; rfl) | (push_cast; omega) | exact tmod_nat _ _) (by first | exact vl_length _ | (rw [vlk_length (by omega)])) (by decide) (by omega)) ?_
    refine VL.q (.inl rfl) rfl (by decide) (yq_loadV rfl Try.underlying25 sz25_WLaw rfl (by first | exact Sees.root (by assumption) | exact Sees.own (by repeat (first | exact List.mem_cons_self | exact List.mem_append_left _ (by assumption) | apply List.mem_cons_of_mem | apply List.mem_append_right)) | exact Sees.root (hR _ (by omega)) | exact Sees.own (RowsIn.mem (by repeat (first | exact RowsIn.here | exact RowsIn.last | apply RowsIn.there | apply RowsIn.thereS)) _ (by omega)) | exact Sees.own (WRowsIn.mem (by repeat (first | exact WRowsIn.here | exact WRowsIn.last | apply WRowsIn.there | apply WRowsIn.thereS)) _ (by omega))) (by omega)) ?_
    refine VL.q (.inl rfl) rfl (by decide) (yq_callf rfl known11_WLaw (.cons rfl .nil) (fun w hw => c_toVec)) ?_
    refine VL.q (.inl rfl) rfl (by decide) (yq_idxN (k := k) rfl Try.underlying28 sz27_WLaw rfl rfl (by first | exact Sees.root (by assumption) | exact Sees.own (by repeat (first | exact List.mem_cons_self | exact List.mem_append_left _ (by assumption) | apply List.mem_cons_of_mem | apply List.mem_append_right)) | exact Sees.root (hR _ (by omega)) | exact Sees.own (RowsIn.mem (by repeat (first | exact RowsIn.here | exact RowsIn.last | apply RowsIn.there | apply RowsIn.thereS)) _ (by omega)) | exact Sees.own (WRowsIn.mem (by repeat (first | exact WRowsIn.here | exact WRowsIn.last | apply WRowsIn.there | apply WRowsIn.thereS)) _ (by omega))) (by first | rfl | omega | (push_cast; rfl) | (push_cast; omega) | exact tmod_nat _ _) (by first | exact vl_length _ | (rw [vlk_length (by omega)])) (by decide) (by omega)) ?_
    refine VL.s (.inl rfl) rfl (yc_store rfl sz27_WLaw rfl rfl (by repeat (first | exact UpdF.here | apply UpdF.there | apply UpdF.thereS)) (.inr ⟨rfl, rfl⟩) rfl (by rw [vlk_length (by omega)]; omega) (by decide) (vlk_set (by omega))) ?_
    rintro ⟨⟩
    refine VL.nil ?_
    refine VE.block_normal ?_
    refine VE.then_wp ?_
    refine V.region ?_
    refine VL.r (.inl rfl) rfl (by decide) (yr_move rfl rfl) ?_
    refine VL.r (.inl rfl) rfl (by decide) (yr_int rfl rfl rfl (.inl ⟨rfl, wrap_in (by omega)⟩)) ?_
    refine VL.r (.inl rfl) rfl (by decide) (yr_assign rfl rfl) ?_
    refine VL.nil ?_
    refine VE.round (k + 1) ?_ ?_ ?_ ?_ ?_
    · exact (.cons rfl .nil)
    · exact (.cons rfl (.cons rfl .nil))
    · exact (fun w hw => hw)
    · omega
    · (try dsimp only); omega
  · skip
    replace h1 := ic_lss' h1
    refine V.exit ?_
    refine VE.then_exit ?_
    refine VE.then_exit ?_
    refine VE.block_here ?_
    refine VE.then_wp ?_
    refine V.seq ?_
    refine V.region ?_
    refine VL.r (.inl rfl) rfl (by decide) (yr_move rfl rfl) ?_
    refine VL.r (.inl rfl) rfl (by decide) (yr_assign rfl rfl) ?_
    refine VL.nil ?_
    refine VE.then_wp ?_
    refine V.ret ?_
    refine ret1 rfl rfl (fun w1 hw => ?_)
    obtain rfl : k = vs.length := by omega
    rw [vlk_all] at hw
    exact ⟨b7, rfl, hw.out1⟩

theorem c_eqVec {w : World} {x1 x2 x3 y1 y2 y3 : Nat} (hx : Can3 (x1, x2, x3)) (hy : Can3 (y1, y2, y3)) : Pure Try.prog 49 [vv (x1, x2, x3), vv (y1, y2, y3)] w (.bool ((x1, x2, x3) == (y1, y2, y3))) := by
  refine Pure.enter Try.func49 rfl Try.ntmps49 (Nat.le_of_ble_eq_true rfl) ?_
  refine V.seq ?_
  refine V.region ?_
  refine VL.new1 (.inl rfl) rfl (by decide) (yn_box rfl rfl (.inr ⟨rfl, rfl⟩)) ?_
  intro b2
  refine VL.new1 (.inl rfl) rfl (by decide) (yn_box rfl rfl (.inr ⟨rfl, rfl⟩)) ?_
  intro b3
  refine VL.r (.inl rfl) rfl (by decide) (yr_assign (u := .bool false) rfl rfl) ?_
  refine VL.nil ?_
  refine VE.then_wp ?_
  refine V.seq ?_
  refine V.seq ?_
  refine V.region ?_
  refine VL.r (.inl rfl) rfl (by decide) (yr_fieldAddr rfl Try.underlying27 rfl rfl sz23_WLaw (by decide) rfl) ?_
  refine VL.q (.inl rfl) rfl (by decide) (yq_load rfl fb23_WLaw rfl (by first | exact Sees.root (by assumption) | exact Sees.own (by repeat (first | exact List.mem_cons_self | exact List.mem_append_left _ (by assumption) | apply List.mem_cons_of_mem | apply List.mem_append_right)) | exact Sees.root (hR _ (by omega)) | exact Sees.own (RowsIn.mem (by repeat (first | exact RowsIn.here | exact RowsIn.last | apply RowsIn.there | apply RowsIn.thereS)) _ (by omega)) | exact Sees.own (WRowsIn.mem (by repeat (first | exact WRowsIn.here | exact WRowsIn.last | apply WRowsIn.there | apply WRowsIn.thereS)) _ (by omega))) rfl) ?_
  refine VL.r (.inl rfl) rfl (by decide) (yr_fconv rfl Try.underlying23 Try.underlying56 (by decide) rfl (fover_up _)) ?_
  refine VL.r (.inl rfl) rfl (by decide) (yr_fieldAddr rfl Try.underlying27 rfl rfl sz23_WLaw (by decide) rfl) ?_
  refine VL.q (.inl rfl) rfl (by decide) (yq_load rfl fb23_WLaw rfl (by first | exact Sees.root (by assumption) | exact Sees.own (by repeat (first | exact List.mem_cons_self | exact List.mem_append_left _ (by assumption) | apply List.mem_cons_of_mem | apply List.mem_append_right)) | exact Sees.root (hR _ (by omega)) | exact Sees.own (RowsIn.mem (by repeat (first | exact RowsIn.here | exact RowsIn.last | apply RowsIn.there | apply RowsIn.thereS)) _ (by omega)) | exact Sees.own (WRowsIn.mem (by repeat (first | exact WRowsIn.here | exact WRowsIn.last | apply WRowsIn.there | apply WRowsIn.thereS)) _ (by omega))) rfl) ?_
  refine VL.r (.inl rfl) rfl (by decide) (yr_fconv rfl Try.underlying23 Try.underlying56 (by decide) rfl (fover_up _)) ?_
  refine VL.q (.inl rfl) rfl (by decide) (yq_callf rfl known33_WLaw (.cons rfl (.cons rfl .nil)) (fun w hw => (c_sameFloat _ _ (can_up _) (can_up _)))) ?_
  refine VL.r (.inl rfl) rfl (by decide) (yr_not rfl rfl) ?_
  refine VL.nil ?_
  refine VE.then_wp ?_
  refine V.cond rfl (fun h1 => ?_) (fun h1 => ?_)
  · skip
    replace h1 := bnot_t h1
    refine V.seq ?_
    refine V.region ?_
    refine VL.r (.inl rfl) rfl (by decide) (yr_assign (u := .bool false) rfl rfl) ?_
    refine VL.nil ?_
    refine VE.then_wp ?_
    refine V.ret ?_
    refine VE.then_ret ?_
    refine ret1 rfl rfl (fun w1 hw => ?_)
    refine ⟨congrArg Value.bool ?_, hw.below⟩
    have e1 := up_beq hx.1 hy.1
    have e2 := up_beq hx.2.1 hy.2.1
    have e3 := up_beq hx.2.2 hy.2.2
    dsimp only at e1 e2 e3
    rw [show ((x1, x2, x3) == (y1, y2, y3)) = (x1 == y1 && (x2 == y2 && x3 == y3)) from rfl, ← e1, ← e2, ← e3]
    simp only [*, Bool.and_false, Bool.and_true, Bool.false_and, Bool.true_and]
  · skip
    replace h1 := bnot_f h1
    refine V.skip ?_
    refine VE.then_wp ?_
    refine V.seq ?_
    refine V.seq ?_
    refine V.region ?_
    refine VL.r (.inl rfl) rfl (by decide) (yr_fieldAddr rfl Try.underlying27 rfl rfl sz23_WLaw (by decide) rfl) ?_
    refine VL.q (.inl rfl) rfl (by decide) (yq_load rfl fb23_WLaw rfl (by first | exact Sees.root (by assumption) | exact Sees.own (by repeat (first | exact List.mem_cons_self | exact List.mem_append_left _ (by assumption) | apply List.mem_cons_of_mem | apply List.mem_append_right)) | exact Sees.root (hR _ (by omega)) | exact Sees.own (RowsIn.mem (by repeat (first | exact RowsIn.here | exact RowsIn.last | apply RowsIn.there | apply RowsIn.thereS)) _ (by omega)) | exact Sees.own (WRowsIn.mem (by repeat (first | exact WRowsIn.here | exact WRowsIn.last | apply WRowsIn.there | apply WRowsIn.thereS)) _ (by omega))) rfl) ?_
    refine VL.r (.inl rfl) rfl (by decide) (yr_fconv rfl Try.underlying23 Try.underlying56 (by decide) rfl (fover_up _)) ?_
    refine VL.r (.inl rfl) rfl (by decide) (yr_fieldAddr rfl Try.underlying27 rfl rfl sz23_WLaw (by decide) rfl) ?_
    refine VL.q (.inl rfl) rfl (by decide) (yq_load rfl fb23_WLaw rfl (by first | exact Sees.root (by assumption) | exact Sees.own (by repeat (first | exact List.mem_cons_self | exact List.mem_append_left _ (by assumption) | apply List.mem_cons_of_mem | apply List.mem_append_right)) | exact Sees.root (hR _ (by omega)) | exact Sees.own (RowsIn.mem (by repeat (first | exact RowsIn.here | exact RowsIn.last | apply RowsIn.there | apply RowsIn.thereS)) _ (by omega)) | exact Sees.own (WRowsIn.mem (by repeat (first | exact WRowsIn.here | exact WRowsIn.last | apply WRowsIn.there | apply WRowsIn.thereS)) _ (by omega))) rfl) ?_
    refine VL.r (.inl rfl) rfl (by decide) (yr_fconv rfl Try.underlying23 Try.underlying56 (by decide) rfl (fover_up _)) ?_
    refine VL.q (.inl rfl) rfl (by decide) (yq_callf rfl known33_WLaw (.cons rfl (.cons rfl .nil)) (fun w hw => (c_sameFloat _ _ (can_up _) (can_up _)))) ?_
    refine VL.r (.inl rfl) rfl (by decide) (yr_not rfl rfl) ?_
    refine VL.nil ?_
    refine VE.then_wp ?_
    refine V.cond rfl (fun h2 => ?_) (fun h2 => ?_)
    · skip
      replace h2 := bnot_t h2
      refine V.seq ?_
      refine V.region ?_
      refine VL.r (.inl rfl) rfl (by decide) (yr_assign (u := .bool false) rfl rfl) ?_
      refine VL.nil ?_
      refine VE.then_wp ?_
      refine V.ret ?_
      refine VE.then_ret ?_
      refine ret1 rfl rfl (fun w1 hw => ?_)
      refine ⟨congrArg Value.bool ?_, hw.below⟩
      have e1 := up_beq hx.1 hy.1
      have e2 := up_beq hx.2.1 hy.2.1
      have e3 := up_beq hx.2.2 hy.2.2
      dsimp only at e1 e2 e3
      rw [show ((x1, x2, x3) == (y1, y2, y3)) = (x1 == y1 && (x2 == y2 && x3 == y3)) from rfl, ← e1, ← e2, ← e3]
      simp only [*, Bool.and_false, Bool.and_true, Bool.false_and, Bool.true_and]
    · skip
      replace h2 := bnot_f h2
      refine V.skip ?_
      refine VE.then_wp ?_
      refine V.seq ?_
      refine V.seq ?_
      refine V.region ?_
      refine VL.r (.inl rfl) rfl (by decide) (yr_fieldAddr rfl Try.underlying27 rfl rfl sz23_WLaw (by decide) rfl) ?_
      refine VL.q (.inl rfl) rfl (by decide) (yq_load rfl fb23_WLaw rfl (by first | exact Sees.root (by assumption) | exact Sees.own (by repeat (first | exact List.mem_cons_self | exact List.mem_append_left _ (by assumption) | apply List.mem_cons_of_mem | apply List.mem_append_right)) | exact Sees.root (hR _ (by omega)) | exact Sees.own (RowsIn.mem (by repeat (first | exact RowsIn.here | exact RowsIn.last | apply RowsIn.there | apply RowsIn.thereS)) _ (by omega)) | exact Sees.own (WRowsIn.mem (by repeat (first | exact WRowsIn.here | exact WRowsIn.last | apply WRowsIn.there | apply WRowsIn.thereS)) _ (by omega))) rfl) ?_
      refine VL.r (.inl rfl) rfl (by decide) (yr_fconv rfl Try.underlying23 Try.underlying56 (by decide) rfl (fover_up _)) ?_
      refine VL.r (.inl rfl) rfl (by decide) (yr_fieldAddr rfl Try.underlying27 rfl rfl sz23_WLaw (by decide) rfl) ?_
      refine VL.q (.inl rfl) rfl (by decide) (yq_load rfl fb23_WLaw rfl (by first | exact Sees.root (by assumption) | exact Sees.own (by repeat (first | exact List.mem_cons_self | exact List.mem_append_left _ (by assumption) | apply List.mem_cons_of_mem | apply List.mem_append_right)) | exact Sees.root (hR _ (by omega)) | exact Sees.own (RowsIn.mem (by repeat (first | exact RowsIn.here | exact RowsIn.last | apply RowsIn.there | apply RowsIn.thereS)) _ (by omega)) | exact Sees.own (WRowsIn.mem (by repeat (first | exact WRowsIn.here | exact WRowsIn.last | apply WRowsIn.there | apply WRowsIn.thereS)) _ (by omega))) rfl) ?_
      refine VL.r (.inl rfl) rfl (by decide) (yr_fconv rfl Try.underlying23 Try.underlying56 (by decide) rfl (fover_up _)) ?_
      refine VL.q (.inl rfl) rfl (by decide) (yq_callf rfl known33_WLaw (.cons rfl (.cons rfl .nil)) (fun w hw => (c_sameFloat _ _ (can_up _) (can_up _)))) ?_
      refine VL.r (.inl rfl) rfl (by decide) (yr_not rfl rfl) ?_
      refine VL.nil ?_
      refine VE.then_wp ?_
      refine V.cond rfl (fun h3 => ?_) (fun h3 => ?_)
      · skip
        replace h3 := bnot_t h3
        refine V.seq ?_
        refine V.region ?_
        refine VL.r (.inl rfl) rfl (by decide) (yr_assign (u := .bool false) rfl rfl) ?_
        refine VL.nil ?_
        refine VE.then_wp ?_
        refine V.ret ?_
        refine VE.then_ret ?_
        refine ret1 rfl rfl (fun w1 hw => ?_)
        refine ⟨congrArg Value.bool ?_, hw.below⟩
        have e1 := up_beq hx.1 hy.1
        have e2 := up_beq hx.2.1 hy.2.1
        have e3 := up_beq hx.2.2 hy.2.2
        dsimp only at e1 e2 e3
        rw [show ((x1, x2, x3) == (y1, y2, y3)) = (x1 == y1 && (x2 == y2 && x3 == y3)) from rfl, ← e1, ← e2, ← e3]
        simp only [*, Bool.and_false, Bool.and_true, Bool.false_and, Bool.true_and]
      · skip
        replace h3 := bnot_f h3
        refine V.skip ?_
        refine VE.then_wp ?_
        refine V.seq ?_
        refine V.region ?_
        refine VL.r (.inl rfl) rfl (by decide) (yr_assign (u := .bool true) rfl rfl) ?_
        refine VL.nil ?_
        refine VE.then_wp ?_
        refine V.ret ?_
        refine ret1 rfl rfl (fun w1 hw => ?_)
        refine ⟨congrArg Value.bool ?_, hw.below⟩
        have e1 := up_beq hx.1 hy.1
        have e2 := up_beq hx.2.1 hy.2.1
        have e3 := up_beq hx.2.2 hy.2.2
        dsimp only at e1 e2 e3
        rw [show ((x1, x2, x3) == (y1, y2, y3)) = (x1 == y1 && (x2 == y2 && x3 == y3)) from rfl, ← e1, ← e2, ← e3]
        simp only [*, Bool.and_false, Bool.and_true, Bool.false_and, Bool.true_and]

theorem c_eqVs {w : World} {a b : Option Addr} {c d : Nat} {xs ys : List V3} (hA : Cl w a (vl xs)) (hB : Cl w b (vl ys)) (hX : Cans3 xs) (hY : Cans3 ys) (hn : xs.length ≤ 1050000) : Pure Try.prog 50 [.slice a xs.length c, .slice b ys.length d] w (.bool (xs == ys)) := by
  refine Pure.enter Try.func50 rfl Try.ntmps50 (Nat.le_of_ble_eq_true rfl) ?_
  refine V.seq ?_
  refine V.region ?_
  refine VL.r (.inl rfl) rfl (by decide) (yr_assign (u := .bool false) rfl rfl) ?_
  refine VL.nil ?_
  refine VE.then_wp ?_
  refine V.seq ?_
  refine V.seq ?_
  refine V.region ?_
  refine VL.r (.inl rfl) rfl (by decide) (yr_move rfl rfl) ?_
  refine VL.r (.inl rfl) rfl (by decide) (yr_len rfl Try.underlying28 rfl) ?_
  refine VL.r (.inl rfl) rfl (by decide) (yr_move rfl rfl) ?_
  refine VL.r (.inl rfl) rfl (by decide) (yr_len rfl Try.underlying28 rfl) ?_
  refine VL.r (.inl rfl) rfl (by decide) (yr_icmp rfl (.inr (.inl rfl)) rfl rfl) ?_
  refine VL.nil ?_
  refine VE.then_wp ?_
  refine V.cond rfl (fun h1 => ?_) (fun h1 => ?_)
  · skip
    replace h1 := ic_neq h1
    refine V.seq ?_
    refine V.region ?_
    refine VL.r (.inl rfl) rfl (by decide) (yr_assign (u := .bool false) rfl rfl) ?_
    refine VL.nil ?_
    refine VE.then_wp ?_
    refine V.ret ?_
    refine VE.then_ret ?_
    refine ret1 rfl rfl (fun w1 hw => ?_)
    refine ⟨congrArg Value.bool ?_, hw.below⟩
    symm; rw [beq_eq_false_iff_ne]; rintro rfl; exact h1 rfl
  · skip
    replace h1 := ic_neq' h1
    refine V.skip ?_
    refine VE.then_wp ?_
    refine V.seq ?_
    refine V.seq ?_
    refine V.region ?_
    refine VL.r (.inl rfl) rfl (by decide) (yr_assign (u := .int .i64 0) rfl rfl) ?_
    refine VL.nil ?_
    refine VE.then_wp ?_
    refine V.block ?_
    refine V.loops (G := Nat) [(0, _), (1, _)] (fun (k : Nat) => k ≤ xs.length ∧ xs.take k = ys.take k) (fun (k : Nat) => [(5, .int .i64 (k : Int))]) (fun (k : Nat) => xs.length - k) 0 (.cons rfl (.cons rfl .nil)) (.cons rfl .nil) ?_ ?_
    · exact (by simp)
    rintro k ⟨hk, ht⟩
    show V _ _ _ _ ([(5, .int .i64 (k : Int))] ++ [(0, _), (1, _)]) _ _
    refine V.seq ?_
    refine V.seq ?_
    refine V.region ?_
    refine VL.r (.inl rfl) rfl (by decide) (yr_move rfl rfl) ?_
    refine VL.r (.inl rfl) rfl (by decide) (yr_move rfl rfl) ?_
    refine VL.r (.inl rfl) rfl (by decide) (yr_len rfl Try.underlying28 rfl) ?_
    refine VL.r (.inl rfl) rfl (by decide) (yr_icmp rfl (.inr (.inr (.inl rfl))) rfl rfl) ?_
    refine VL.nil ?_
    refine VE.then_wp ?_
    refine V.cond rfl (fun h2 => ?_) (fun h2 => ?_)
    · skip
      replace h2 := ic_lss h2
      refine V.skip ?_
      refine VE.then_wp ?_
      refine V.seq ?_
      refine V.block ?_
      refine V.seq ?_
      refine V.draw [(0, 0), (1, 0), (2, 0), (3, 0), (4, 0), (5, 0), (6, 0), (7, 0), (8, 0), (9, 0)] mixed_WLaw (by kernel_rfl) (by intro j o hj; simp at hj) ?_
      refine SW.r rfl (.inl rfl) rfl (by decide) (yr_move rfl rfl) ?_
      refine SW.r rfl (.inl rfl) rfl (by decide) (yr_move rfl rfl) ?_
      refine SW.q rfl (.inl rfl) rfl (by decide) (yq_idxN (k := k) rfl Try.underlying28 sz27_WLaw rfl rfl (by first | exact Sees.root (by assumption) | exact Sees.own (by repeat (first | exact List.mem_cons_self | exact List.mem_append_left _ (by assumption) | apply List.mem_cons_of_mem | apply List.mem_append_right)) | exact Sees.root (hR _ (by omega)) | exact Sees.own (RowsIn.mem (by repeat (first | exact RowsIn.here | exact RowsIn.last | apply RowsIn.there | apply RowsIn.thereS)) _ (by omega)) | exact Sees.own (WRowsIn.mem (by repeat (first | exact WRowsIn.here | exact WRowsIn.last | apply WRowsIn.there | apply WRowsIn.thereS)) _ (by omega))) (by first | rfl | omega | (push_cast; rfl) | (push_cast; omega) | exact tmod_nat _ _) (by exact vl_length _) (by decide) (by omega)) ?_
      refine SW.q rfl (.inl rfl) rfl (by decide) (yq_loadV rfl Try.underlying27 sz27_WLaw rfl (by first | exact Sees.root (by assumption) | exact Sees.own (by repeat (first | exact List.mem_cons_self | exact List.mem_append_left _ (by assumption) | apply List.mem_cons_of_mem | apply List.mem_append_right)) | exact Sees.root (hR _ (by omega)) | exact Sees.own (RowsIn.mem (by repeat (first | exact RowsIn.here | exact RowsIn.last | apply RowsIn.there | apply RowsIn.thereS)) _ (by omega)) | exact Sees.own (WRowsIn.mem (by repeat (first | exact WRowsIn.here | exact WRowsIn.last | apply WRowsIn.there | apply WRowsIn.thereS)) _ (by omega))) (by omega)) ?_
      refine SW.r rfl (.inl rfl) rfl (by decide) (yr_move rfl rfl) ?_
      refine SW.r rfl (.inl rfl) rfl (by decide) (yr_move rfl rfl) ?_
      refine SW.q rfl (.inl rfl) rfl (by decide) (yq_idxN (k := k) rfl Try.underlying28 sz27_WLaw rfl rfl (by first | exact Sees.root (by assumption) | exact Sees.own (by repeat (first | exact List.mem_cons_self | exact List.mem_append_left _ (by assumption) | apply List.mem_cons_of_mem | apply List.mem_append_right)) | exact Sees.root (hR _ (by omega)) | exact Sees.own (RowsIn.mem (by repeat (first | exact RowsIn.here | exact RowsIn.last | apply RowsIn.there | apply RowsIn.thereS)) _ (by omega)) | exact Sees.own (WRowsIn.mem (by repeat (first | exact WRowsIn.here | exact WRowsIn.last | apply WRowsIn.there | apply WRowsIn.thereS)) _ (by omega))) (by first | rfl | omega | (push_cast; rfl) | (push_cast; omega) | exact tmod_nat _ _) (by exact vl_length _) (by decide) (by omega)) ?_
      refine SW.q rfl (.inl rfl) rfl (by decide) (yq_loadV rfl Try.underlying27 sz27_WLaw rfl (by first | exact Sees.root (by assumption) | exact Sees.own (by repeat (first | exact List.mem_cons_self | exact List.mem_append_left _ (by assumption) | apply List.mem_cons_of_mem | apply List.mem_append_right)) | exact Sees.root (hR _ (by omega)) | exact Sees.own (RowsIn.mem (by repeat (first | exact RowsIn.here | exact RowsIn.last | apply RowsIn.there | apply RowsIn.thereS)) _ (by omega)) | exact Sees.own (WRowsIn.mem (by repeat (first | exact WRowsIn.here | exact WRowsIn.last | apply WRowsIn.there | apply WRowsIn.thereS)) _ (by omega))) (by omega)) ?_
      refine SW.q rfl (.inl rfl) rfl (by decide) (yq_callf rfl known49_WLaw (.cons rfl (.cons rfl .nil)) (fun w hw => (c_eqVec (hX.row (by omega)) (hY.row (by omega))))) ?_
      refine SW.r rfl (.inl rfl) rfl (by decide) (yr_not rfl rfl) ?_
      refine SW.done ?_
      refine VE.then_wp ?_
      refine V.cond rfl (fun h3 => ?_) (fun h3 => ?_)
      · skip
        replace h3 := bnot_t h3
        refine V.seq ?_
        refine V.region ?_
        refine VL.r (.inl rfl) rfl (by decide) (yr_assign (u := .bool false) rfl rfl) ?_
        refine VL.nil ?_
        refine VE.then_wp ?_
        refine V.ret ?_
        refine VE.block_ret ?_
        refine VE.then_ret ?_
        refine VE.then_ret ?_
        refine VE.block_ret ?_
        refine VE.then_ret ?_
        refine ret1 rfl rfl (fun w1 hw => ?_)
        refine ⟨congrArg Value.bool ?_, hw.below⟩
        symm; rw [beq_eq_false_iff_ne]; rintro rfl; exact (beq_eq_false_iff_ne.1 h3) rfl
      · skip
        replace h3 := bnot_f h3
        refine V.skip ?_
        refine VE.block_normal ?_
        refine VE.then_wp ?_
        refine V.region ?_
        refine VL.r (.inl rfl) rfl (by decide) (yr_move rfl rfl) ?_
        refine VL.r (.inl rfl) rfl (by decide) (yr_int rfl rfl rfl (.inl ⟨rfl, wrap_in (by omega)⟩)) ?_
        refine VL.r (.inl rfl) rfl (by decide) (yr_assign rfl rfl) ?_
        refine VL.nil ?_
        refine VE.round (k + 1) ?_ ?_ ?_ ?_ ?_
        · exact (.cons rfl .nil)
        · exact (.cons rfl (.cons rfl .nil))
        · exact (fun w hw => hw)
        · have h9 : xs.getD k z3 = ys.getD k z3 := eq_of_beq h3
          exact ⟨by omega, vtake_succ_eq ht (by omega) (by omega) h9⟩
        · (try dsimp only); omega
    · skip
      replace h2 := ic_lss' h2
      refine V.exit ?_
      refine VE.then_exit ?_
      refine VE.then_exit ?_
      refine VE.block_here ?_
      refine VE.then_wp ?_
      refine V.seq ?_
      refine V.region ?_
      refine VL.r (.inl rfl) rfl (by decide) (yr_assign (u := .bool true) rfl rfl) ?_
      refine VL.nil ?_
      refine VE.then_wp ?_
      refine V.ret ?_
      refine ret1 rfl rfl (fun w1 hw => ?_)
      refine ⟨congrArg Value.bool ?_, hw.below⟩
      symm; rw [beq_iff_eq]
      rwa [List.take_of_length_le (by omega), List.take_of_length_le (by omega)] at ht

theorem c_szVs {w : World} {a : Option Addr} {m c : Nat} {left : Int} (h0 : 0 ≤ left) (h1 : left ≤ 1048576) (hm : m ≤ 9223372036854775807) : Pure Try.prog 59 [.slice a m c, .int .i64 left] w (.int .i64 (szOf left m)) := by
  refine Pure.enter Try.func59 rfl Try.ntmps59 (Nat.le_of_ble_eq_true rfl) ?_
  refine V.seq ?_
  refine V.region ?_
  refine VL.r (.inl rfl) rfl (by decide) (yr_assign (u := .int .i64 0) rfl rfl) ?_
  refine VL.nil ?_
  refine VE.then_wp ?_
  refine V.seq ?_
  refine V.region ?_
  refine VL.r (.inl rfl) rfl (by decide) (yr_move rfl rfl) ?_
  refine VL.r (.inl rfl) rfl (by decide) (yr_move rfl rfl) ?_
  refine VL.r (.inl rfl) rfl (by decide) (yr_len rfl Try.underlying43 rfl) ?_
  refine VL.r (.inl rfl) rfl (by decide) (yr_int rfl rfl rfl (.inr (.inl ⟨rfl, wrap_in (by omega)⟩))) ?_
  refine VL.r (.inl rfl) rfl (by decide) (yr_assign rfl rfl) ?_
  refine VL.nil ?_
  refine VE.then_wp ?_
  refine V.seq ?_
  refine V.seq ?_
  refine V.region ?_
  refine VL.r (.inl rfl) rfl (by decide) (yr_move rfl rfl) ?_
  refine VL.r (.inl rfl) rfl (by decide) (yr_icmp rfl (.inr (.inr (.inl rfl))) rfl rfl) ?_
  refine VL.nil ?_
  refine VE.then_wp ?_
  refine V.cond rfl (fun h1 => ?_) (fun h1 => ?_)
  · skip
    replace h1 := ic_lss h1
    refine V.seq ?_
    refine V.region ?_
    refine VL.r (.inl rfl) rfl (by decide) (yr_assign (u := .int .i64 (-1)) rfl rfl) ?_
    refine VL.nil ?_
    refine VE.then_wp ?_
    refine V.ret ?_
    refine VE.then_ret ?_
    refine ret1 rfl rfl (fun w1 hw => ?_)
    exact ⟨by rw [szOf, if_pos (by omega)], hw.below⟩
  · skip
    replace h1 := ic_lss' h1
    refine V.skip ?_
    refine VE.then_wp ?_
    refine V.seq ?_
    refine V.region ?_
    refine VL.r (.inl rfl) rfl (by decide) (yr_move rfl rfl) ?_
    refine VL.r (.inl rfl) rfl (by decide) (yr_assign rfl rfl) ?_
    refine VL.nil ?_
    refine VE.then_wp ?_
    refine V.ret ?_
    refine ret1 rfl rfl (fun w1 hw => ?_)
    exact ⟨by rw [szOf, if_neg (by omega)], hw.below⟩

end Go.Proofs.Ytnommdpgmoljcaa


namespace Go.Proofs.Ytnommdpgmoljcaa
open Go.RowKit
set_option linter.unusedVariables false
set_option linter.unusedSimpArgs false
set_option maxRecDepth 20000

attribute [local irreducible] fop fcmp fconv sqrt32 fneg segF

end Go.Proofs.Ytnommdpgmoljcaa


namespace Go.Proofs.Ytnommdpgmoljcaa
open Go.RowKit

section
variable {x : Nat} {ok : Bool} {s : Nat × Nat × Bool}
end
section
variable {ws : List Wr} {vs : List V3} {way : V3}
end
end Go.Proofs.Ytnommdpgmoljcaa


namespace Go.Proofs.Ytnommdpgmoljcaa
open Go.RowKit

/-- The address of a part. -/
def slA (a : Option Addr) (l mm z : Nat) : Option Addr := if mm = l then a else a.map (·.add (l * z))
theorem Cl.part {w : World} {a : Option Addr} {us : List Value} (h : Cl w a us) {l hh mm z : Nat} (h1 : hh ≤ mm) : Cl w (slA a l mm z) ((us.drop (l * z)).take ((hh - l) * z)) := by
  by_cases hm : mm = l
  · have : hh - l = 0 := by omega
    rw [this, Nat.zero_mul, List.take_zero]
    exact .inl rfl
  · unfold slA
    rw [if_neg hm]
    rcases h with h | ⟨p, rfl, hsp, h⟩
    · subst h; simp; exact .inl rfl
    · refine .inr ⟨p.add (l * z), rfl, ?_, fun i u hu => ?_⟩
      · rw [adr_add hsp]; rfl
      · rw [List.getElem?_take] at hu
        split at hu
        · rw [List.getElem?_drop] at hu
          obtain ⟨v, hv, he⟩ := h _ _ hu
          refine ⟨v, ?_, he⟩
          rw [adr_add hsp]
          simp only [adr]
          rw [show p.off + l * z + i = p.off + (l * z + i) by omega]
          exact hv
        · cases hu
theorem Sees.part {w0 : World} {O : List Ent} {a : Option Addr} {us : List Value} (h : Sees w0 O a us) {l hh mm z : Nat} (h1 : hh ≤ mm) : Sees w0 O (slA a l mm z) ((us.drop (l * z)).take ((hh - l) * z)) := fun w hw => (h w hw).part h1

section
variable {P : Program} {n : Nat} {w0 : World} {O : List Ent} {E : Env} {o : Oper}

/-- A bound of a part: none, or a number. -/
def OptI (E : Env) (x : Option Operand) (d v : Nat) : Prop := (x = none ∧ v = d) ∨ ∃ y k, x = some y ∧ E.opd y = some (.int k (v : Int))
theorem OptI.no {d : Nat} : OptI E none d d := .inl ⟨rfl, rfl⟩
theorem OptI.at {y : Operand} {k : IntKind} {i : Int} {d v : Nat} (h : E.opd y = some (.int k i)) (hi : i = (v : Int)) : OptI E (some y) d v := .inr ⟨y, k, rfl, by rw [h, hi]⟩

theorem run_bound {k : IntKind} {v y : Nat} (h : v ≤ y) (code : BoundsCode) (w : World) : (Instr.sliceBound (.int k (v : Int)) y code).run P w = .ok v w := by
  simp [Instr.sliceBound, asIntOf, h]

/-- A row of cells is written into a block that is known. -/
theorem Hp.write {A B : List Ent} {a : Option Addr} {us : List Value} {cap : Nat} {ty : TypeId} {w : World} (hw : Hp w0 (A ++ ⟨a, us, cap, ty⟩ :: B) w) (vs : List Value) (k : Nat) (hs : vs.all scal = true) (hk : k + vs.length ≤ us.length) (hne : vs ≠ []) :
    ∃ w', (storeCells (adr a k) vs).run P w = .ok () w' ∧ Hp w0 (A ++ ⟨a, setAt us k (vs.map cn), cap, ty⟩ :: B) w' := by
  have hent := hw.ents ⟨a, us, cap, ty⟩ (by simp)
  have hl : 0 < vs.length := List.length_pos_iff.2 hne
  have hcap : cap ≠ 0 := by
    rcases hent with h | ⟨_, _, _, _, _, _, h5, _⟩
    · have := h.1; simp only at this; subst this; simp only [List.length_nil] at hk; omega
    · simp only at h5; omega
  obtain ⟨b0, hb0, hge⟩ := hent.addr hcap
  obtain ⟨b, w', r1, r2, r3, r4⟩ := run_storeCells_ent (P := P) vs us 0 k w a cap ty hs (by omega) hent
  have hbb : b = b0 := by
    have := r2 hne
    simp only at hb0
    rw [this] at hb0
    simpa using hb0
  subst hbb
  refine ⟨w', r1, ?_⟩
  simp only [Nat.add_zero] at r4
  exact Hp.turn hw (fun _ => ⟨_, hb0, rfl⟩) hge (fun h => absurd h hcap) r3 r4 (fun _ p hp => .inl (by simp only at hp hb0; rw [hb0] at hp; cases hp; rfl))

/-! ### bits of unsigned numbers -/
theorem yr_bits {op : BinOp} {t ty : TypeId} {x y : Operand} {k : IntKind} {a b r : Int} (ho : o.op = .binOp op t x y ty) (hx : E.opd x = some (.int k a)) (hy : E.opd y = some (.int k b))
    (hr : (op = .and ∧ k.wrap (((a % 2 ^ k.bits).toNat &&& (b % 2 ^ k.bits).toNat : Nat) : Int) = r) ∨ (op = .or ∧ k.wrap (((a % 2 ^ k.bits).toNat ||| (b % 2 ^ k.bits).toNat : Nat) : Int) = r)) : YR P E o (.int k r) := yr_of fun ρ w hE => by
  have h1 := cn_int (hE.get (x := x) (by simp [ho, Op.operands]) hx)
  have h2 := cn_int (hE.get (x := y) (by simp [ho, Op.operands]) hy)
  refine ⟨.int k r, ?_, rfl⟩
  rcases hr with ⟨rfl, hr⟩ | ⟨rfl, hr⟩ <;> simp [execOp, ho, h1, h2, eqGuard, binOp, Op.intBits, hr]
theorem yr_shr {t ty : TypeId} {x y : Operand} {k k2 : IntKind} {a r : Int} {b : Nat} (ho : o.op = .binOp .shr t x y ty) (hx : E.opd x = some (.int k a)) (hy : E.opd y = some (.int k2 (b : Int)))
    (hr : a.fdiv (2 ^ (min b k.bits)) = r) : YR P E o (.int k r) := yr_of fun ρ w hE => by
  have h1 := cn_int (hE.get (x := x) (by simp [ho, Op.operands]) hx)
  have h2 := cn_int (hE.get (x := y) (by simp [ho, Op.operands]) hy)
  refine ⟨.int k r, ?_, rfl⟩
  have h3 : ¬ ((b : Int) < 0) := by omega
  simp [execOp, ho, h1, h2, eqGuard, binOp, Op.shift, h3, hr]
theorem yr_shl {t ty : TypeId} {x y : Operand} {k k2 : IntKind} {a r : Int} {b : Nat} (ho : o.op = .binOp .shl t x y ty) (hx : E.opd x = some (.int k a)) (hy : E.opd y = some (.int k2 (b : Int)))
    (hr : k.wrap (a * 2 ^ (min b k.bits)) = r) : YR P E o (.int k r) := yr_of fun ρ w hE => by
  have h1 := cn_int (hE.get (x := x) (by simp [ho, Op.operands]) hx)
  have h2 := cn_int (hE.get (x := y) (by simp [ho, Op.operands]) hy)
  refine ⟨.int k r, ?_, rfl⟩
  have h3 : ¬ ((b : Int) < 0) := by omega
  simp [execOp, ho, h1, h2, eqGuard, binOp, Op.shift, h3, hr]

/-! ### parts of a block of the call's own -/
theorem Sees.take {a : Option Addr} {us : List Value} (q : Nat) (h : Sees w0 O a us) : Sees w0 O a (us.take q) := fun w hw => (h w hw).sub _ (fun i u hu => by
  rw [List.getElem?_take] at hu
  split at hu
  · exact hu
  · cases hu)
theorem Sees.drop {b : Nat} {us : List Value} (q : Nat) (h : Sees w0 O (some ⟨b, 0, none⟩) us) : Sees w0 O (some (adr (some ⟨b, 0, none⟩) q)) (us.drop q) := fun w hw => by
  rcases h w hw with h | ⟨p, hp, hsp, h⟩
  · subst h; simp; exact .inl rfl
  · cases hp
    refine .inr ⟨_, rfl, rfl, fun i u hu => ?_⟩
    rw [List.getElem?_drop] at hu
    obtain ⟨v, hv, he⟩ := h _ _ hu
    refine ⟨v, ?_, he⟩
    simp only [adr, Nat.zero_add] at hv ⊢
    exact hv
/-- A block that is known lies at the head of a block. -/
theorem VX.addr {a : Option Addr} {us : List Value} {cap : Nat} {ty : TypeId} {R : Act → World → Prop} (hm : (⟨a, us, cap, ty⟩ : Ent) ∈ O) (hc : us ≠ []) (h : ∀ b, a = some ⟨b, 0, none⟩ → us.length ≤ cap → VX n w0 O E R) : VX n w0 O E R := by
  intro act w ha hw
  rcases hw.ents _ hm with h1 | ⟨b, c, h1, _, _, _, h5, _⟩
  · exact absurd h1.1 hc
  · exact h b h1 h5 act w ha hw
end
end Go.Proofs.Ytnommdpgmoljcaa


namespace Go.Proofs.Ytnommdpgmoljcaa
open Go.RowKit

def szOk (wi hi de : Int) : Bool := decide (1 ≤ wi ∧ wi ≤ 216) && decide (1 ≤ hi ∧ hi ≤ 216) && decide (1 ≤ de ∧ de ≤ 216) && decide (wi * hi * de ≤ 216)
def meshOk (f : V3) (st : Nat) (wi hi de : Int) (n : Nat) : Bool := fin3 f && above st && szOk wi hi de && decide ((n : Int) = wi * hi * de)
section
variable {wi hi de : Int} {f : V3} {st n : Nat}
theorem mesh_mul (h1 : decide (1 ≤ wi ∧ wi ≤ 216) = true) (h2 : decide (1 ≤ hi ∧ hi ≤ 216) = true) (h3 : decide (1 ≤ de ∧ de ≤ 216) = true) : (1 ≤ wi * hi ∧ wi * hi ≤ 46656) ∧ 1 ≤ wi * hi * de ∧ wi * hi * de ≤ 10077696 := by
  rw [decide_eq_true_eq] at h1 h2 h3
  obtain ⟨W, rfl⟩ : ∃ W : Nat, wi = W := ⟨wi.toNat, by omega⟩
  obtain ⟨H, rfl⟩ : ∃ H : Nat, hi = H := ⟨hi.toNat, by omega⟩
  obtain ⟨D, rfl⟩ : ∃ D : Nat, de = D := ⟨de.toNat, by omega⟩
  have a1 : 1 * 1 ≤ W * H := Nat.mul_le_mul (by omega) (by omega)
  have a2 : W * H ≤ 216 * 216 := Nat.mul_le_mul (by omega) (by omega)
  have a3 : 1 * 1 ≤ W * H * D := Nat.mul_le_mul (by omega) (by omega)
  have a4 : W * H * D ≤ 46656 * 216 := Nat.mul_le_mul (by omega) (by omega)
  have e1 : (W : Int) * H = ((W * H : Nat) : Int) := (Int.natCast_mul W H).symm
  have e2 : (W : Int) * H * D = ((W * H * D : Nat) : Int) := by rw [Int.natCast_mul, Int.natCast_mul]
  rw [e2, e1]
  generalize W * H * D = p at *
  generalize W * H = q at *
  omega
theorem szOk_is (h : szOk wi hi de = true) : ∃ W H D : Nat, wi = W ∧ hi = H ∧ de = D ∧ 1 ≤ W ∧ 1 ≤ H ∧ 1 ≤ D ∧ W ≤ 216 ∧ H ≤ 216 ∧ D ≤ 216 ∧ W * H * D ≤ 216 := by
  unfold szOk at h
  simp only [Bool.and_eq_true, decide_eq_true_eq] at h
  obtain ⟨⟨⟨h1, h2⟩, h3⟩, h4⟩ := h
  obtain ⟨W, rfl⟩ : ∃ W : Nat, wi = W := ⟨wi.toNat, by omega⟩
  obtain ⟨H, rfl⟩ : ∃ H : Nat, hi = H := ⟨hi.toNat, by omega⟩
  obtain ⟨D, rfl⟩ : ∃ D : Nat, de = D := ⟨de.toNat, by omega⟩
  exact ⟨W, H, D, rfl, rfl, rfl, by omega, by omega, by omega, by omega, by omega, by omega, by
    rw [show (W : Int) * H * D = ((W * H * D : Nat) : Int) by rw [Int.natCast_mul, Int.natCast_mul]] at h4
    generalize W * H * D = p at *
    omega⟩
theorem szOk_no1 (h : decide (1 ≤ wi ∧ wi ≤ 216) = false) : false = szOk wi hi de := by unfold szOk; rw [h]; rfl
theorem szOk_no2 (h : decide (1 ≤ hi ∧ hi ≤ 216) = false) : false = szOk wi hi de := by unfold szOk; rw [h, Bool.and_false]; rfl
theorem szOk_no3 (h : decide (1 ≤ de ∧ de ≤ 216) = false) : false = szOk wi hi de := by unfold szOk; rw [h, Bool.and_false]; rfl
theorem szOk_last (h1 : decide (1 ≤ wi ∧ wi ≤ 216) = true) (h2 : decide (1 ≤ hi ∧ hi ≤ 216) = true) (h3 : decide (1 ≤ de ∧ de ≤ 216) = true) : icmp .leq (wi * hi * de) 216 = szOk wi hi de := by unfold szOk; rw [h1, h2, h3]; rfl
theorem szOk_yes (h1 : decide (1 ≤ wi ∧ wi ≤ 216) = true) (h2 : decide (1 ≤ hi ∧ hi ≤ 216) = true) (h3 : decide (1 ≤ de ∧ de ≤ 216) = true) (h4 : wi * hi * de ≤ 216) : szOk wi hi de = true := by rw [← szOk_last h1 h2 h3]; exact decide_eq_true h4
theorem szOk_no4 (h4 : 216 < wi * hi * de) : szOk wi hi de = false := by unfold szOk; rw [show decide (wi * hi * de ≤ 216) = false from decide_eq_false (by omega), Bool.and_false]
theorem meshOk_no1 (h : fin3 f = false) : false = meshOk f st wi hi de n := by unfold meshOk; rw [h]; rfl
theorem meshOk_no2 (h : above st = false) : false = meshOk f st wi hi de n := by unfold meshOk; rw [h, Bool.and_false]; rfl
theorem meshOk_no3 (h : szOk wi hi de = false) : false = meshOk f st wi hi de n := by unfold meshOk; rw [h, Bool.and_false]; rfl
theorem meshOk_last (h1 : fin3 f = true) (h2 : above st = true) (h3 : szOk wi hi de = true) : icmp .eql (n : Int) (wi * hi * de) = meshOk f st wi hi de n := by
  unfold meshOk; rw [h1, h2, h3]
  show ((n : Int) == wi * hi * de) = (true && decide ((n : Int) = wi * hi * de))
  rw [Bool.true_and, Bool.eq_iff_iff, beq_iff_eq, decide_eq_true_eq]
theorem meshOk_is (h : meshOk f st wi hi de n = true) : fin3 f = true ∧ above st = true ∧ szOk wi hi de = true ∧ (n : Int) = wi * hi * de := by
  unfold meshOk at h
  simp only [Bool.and_eq_true, decide_eq_true_eq] at h
  exact ⟨h.1.1.1, h.1.1.2, h.1.2, h.2⟩
/-- A mesh that is valid, its sizes as natural numbers. -/
theorem mesh_open (h : meshOk f st wi hi de n = true) : ∃ W H D : Nat, wi = W ∧ hi = H ∧ de = D ∧ (1 ≤ W ∧ 1 ≤ H ∧ 1 ≤ D) ∧ (W ≤ 216 ∧ H ≤ 216 ∧ D ≤ 216) ∧ W * H * D ≤ 216 ∧ n = W * H * D := by
  obtain ⟨_, _, h3, h4⟩ := meshOk_is h
  obtain ⟨W, H, D, rfl, rfl, rfl, a1, a2, a3, a4, a5, a6, a7⟩ := szOk_is h3
  exact ⟨W, H, D, rfl, rfl, rfl, ⟨a1, a2, a3⟩, ⟨a4, a5, a6⟩, a7, by
    rw [show (W : Int) * H * D = ((W * H * D : Nat) : Int) by rw [Int.natCast_mul, Int.natCast_mul]] at h4
    exact Int.ofNat.inj h4⟩
end

/-! ### nodes in order -/
section
variable {W H D x y z j : Nat}
end

section
variable {P : Program} {n : Nat} {w0 : World} {O : List Ent} {E : Env} {o : Oper}
theorem yr_addN {t ty : TypeId} {x y : Operand} {a b : Int} (r : Nat) (ho : o.op = .binOp .add t x y ty) (hx : E.opd x = some (.int .i64 a)) (hy : E.opd y = some (.int .i64 b)) (h : a + b = (r : Int)) (hb : r ≤ 9223372036854775807) : YR P E o (.int .i64 (r : Int)) := by
  rw [← h]
  exact yr_int ho hx hy (.inl ⟨rfl, wrap_in (by omega)⟩)
theorem yr_func2 {f : Fn} {c1 c2 : Operand} {p1 p2 : Option Addr} (ho : o.op = .makeFunc f #[] #[c1, c2]) (h1 : E.opd c1 = some (.pointer p1)) (h2 : E.opd c2 = some (.pointer p2)) : YR P E o (.func f #[] #[.pointer p1, .pointer p2]) :=
  yr_func ho (fun ρ hE => by simp [cn_pointer (hE.get (x := c1) (by simp [ho, Op.operands]) h1), cn_pointer (hE.get (x := c2) (by simp [ho, Op.operands]) h2)]) (fun _ => rfl)
theorem Pick.e4 {O1 O2 O3 F : List Ent} {e1 e2 e3 e4 : Ent} (h1 : Rem O [e1] O1) (h2 : Rem O1 [e2] O2) (h3 : Rem O2 [e3] O3) (h4 : Rem O3 [e4] F) : Pick O [e1, e2, e3, e4] F := Pick.take h1 (Pick.take h2 (Pick.take h3 (Pick.take h4 .nil)))
theorem Hp.rot {w : World} {A F : List Ent} {b : Ent} (hw : Hp w0 (A ++ (b :: (F ++ []))) w) : Hp w0 (b :: (F ++ A)) w := by
  rw [List.append_nil] at hw
  exact hw.perm' List.perm_append_comm
end

/-! ### places, values -/
section
variable {vs : List V3} {W H D tw x y z j k a b : Nat}
end
section
variable {f : V3} {st : Nat} {wi hi de : Int} {vs : List V3}
end
end Go.Proofs.Ytnommdpgmoljcaa

