/- Own texts of this claim, merged: Ne, Nf, Tk, WTk, Sign, Drop, Rt, WDd, WRows, Tl. -/
import Derived.KernelRfl
import Derived.Deep.Slices
import Derived.Test.YtpoigbpaeniikaaKFnTicks2
namespace Go.Proofs.Ytpoigbpaeniikaa
open Go.RowKit

/-- n steps of a grid are a number of double precision. -/
theorem er_rep64 {n c : Nat} (h : n ≤ 2 ^ 53) (hc : c ≤ 1900) : ∃ r, r < FloatKind.f64.format.infRung ∧ units FloatKind.f64.format r = n * 2 ^ c := by
  have hb : FloatKind.f64.format.binade = 2 ^ 52 := by decide
  have hi : FloatKind.f64.format.infRung = 2047 * 2 ^ 52 := by decide
  by_cases h0 : n < 2 ^ 53
  · by_cases h1 : n = 0
    · subst h1
      exact ⟨0, by decide, by rw [(units_zero _).2 rfl, Nat.zero_mul]⟩
    have hl : n.log2 ≤ 52 := by have := (Nat.log2_lt h1).2 h0; omega
    have g1 := Nat.log2_self_le h1
    have g2 : n < 2 ^ (n.log2 + 1) := Nat.lt_log2_self
    -- shift left until 24 bits are there, or until the grid is the least one
    obtain ⟨d, hd, hdc⟩ : ∃ d, d ≤ c ∧ (d = c ∧ n * 2 ^ d < 2 ^ 53 ∨ 2 ^ 52 ≤ n * 2 ^ d ∧ n * 2 ^ d < 2 ^ 53) := by
      by_cases hcl : c ≤ 52 - n.log2
      · refine ⟨c, Nat.le_refl _, .inl ⟨rfl, ?_⟩⟩
        calc n * 2 ^ c < 2 ^ (n.log2 + 1) * 2 ^ c := Nat.mul_lt_mul_of_pos_right g2 (pow_pos' _)
          _ = 2 ^ (n.log2 + 1 + c) := by rw [← Nat.pow_add]
          _ ≤ 2 ^ 53 := Nat.pow_le_pow_right (by decide) (by omega)
      · refine ⟨52 - n.log2, by omega, .inr ⟨?_, ?_⟩⟩
        · calc 2 ^ 52 = 2 ^ n.log2 * 2 ^ (52 - n.log2) := by rw [← Nat.pow_add]; congr 1; omega
            _ ≤ _ := Nat.mul_le_mul_right _ g1
        · calc n * 2 ^ (52 - n.log2) < 2 ^ (n.log2 + 1) * 2 ^ (52 - n.log2) := Nat.mul_lt_mul_of_pos_right g2 (pow_pos' _)
            _ = 2 ^ 53 := by rw [← Nat.pow_add]; congr 1; omega
    have hmul : n * 2 ^ c = n * 2 ^ d * 2 ^ (c - d) := by rw [Nat.mul_assoc, ← Nat.pow_add]; congr 2; omega
    rw [hmul]
    generalize n * 2 ^ d = m at hdc
    by_cases hm : m < 2 ^ 52
    · have hd2 : d = c := by rcases hdc with h2 | h2 <;> omega
      refine ⟨m, by rw [hi]; omega, ?_⟩
      unfold units
      rw [hb, if_pos hm, hd2, Nat.sub_self, Nat.pow_zero, Nat.mul_one]
    · have hm2 : m < 2 ^ 53 := by rcases hdc with h2 | h2 <;> omega
      refine ⟨(c - d + 1) * 2 ^ 52 + (m - 2 ^ 52), by rw [hi]; omega, ?_⟩
      unfold units
      rw [hb, if_neg (by omega)]
      have e1 : ((c - d + 1) * 2 ^ 52 + (m - 2 ^ 52)) % 2 ^ 52 = m - 2 ^ 52 := by
        rw [Nat.add_comm, Nat.add_mul_mod_self_right, Nat.mod_eq_of_lt (by omega)]
      have e2 : ((c - d + 1) * 2 ^ 52 + (m - 2 ^ 52)) / 2 ^ 52 = c - d + 1 := by
        rw [Nat.add_comm, Nat.add_mul_div_right _ _ (by decide), Nat.div_eq_of_lt (by omega), Nat.zero_add]
      rw [e1, e2, show 2 ^ 52 + (m - 2 ^ 52) = m by omega, Nat.add_sub_cancel]
  · obtain rfl : n = 2 ^ 53 := by omega
    refine ⟨(c + 2) * 2 ^ 52, by rw [hi]; omega, ?_⟩
    unfold units
    rw [hb, if_neg (by omega), Nat.mul_mod_left, Nat.mul_div_cancel _ (by decide), Nat.add_zero, show c + 2 - 1 = 1 + c by omega, Nat.pow_add, ← Nat.mul_assoc]

theorem lp64 : FloatKind.f64.format.leastPlace = -1074 := by decide
/-- Narrowed: not farther than a step of the grid. -/
theorem er_narrow {y : Nat} {V : Int} {c : Nat} (hc : c ≤ 200) (hy : rng FloatKind.f64.format y < FloatKind.f64.format.infRung) (hV : sval FloatKind.f64.format y = V) (h : V.natAbs ≤ 2 ^ 24 * 2 ^ c * 2 ^ 925) :
    fover .f64 .f32 y = false ∧ ∃ Z, apx (fconv .f64 .f32 y) Z ∧ V - ((2 ^ c * 2 ^ 925 : Nat) : Int) ≤ Z * ((2 ^ 925 : Nat) : Int) ∧ Z * ((2 ^ 925 : Nat) : Int) ≤ V + ((2 ^ c * 2 ^ 925 : Nat) : Int) := by
  obtain ⟨m, e, a1, a2⟩ := read_number FloatKind.f64.format hy
  have hu : units FloatKind.f64.format (rng FloatKind.f64.format y) = V.natAbs := by
    have := congrArg Int.natAbs hV
    unfold sval at this
    split at this <;> simpa using this
  have hs : (sgn FloatKind.f64.format y = true → V ≤ 0) ∧ (sgn FloatKind.f64.format y = false → 0 ≤ V) := by
    have := hV
    unfold sval at this
    constructor <;> intro hs <;> rw [hs] at this <;> simp at this <;> omega
  rw [hu] at a2
  obtain ⟨r, r1, r2, r3, r4⟩ := er_core (sgn FloatKind.f64.format y) (m := m) (a := 925) (b := e) (c := c) (e := FloatKind.f64.format.leastPlace + (e : Int)) hc (by rw [lp64, lp32]; omega) (by rw [a2]; exact h)
  rw [a2] at r3 r4
  have hd : FloatKind.f64.decode y = .number (sgn FloatKind.f64.format y) m (FloatKind.f64.format.leastPlace + (e : Int)) := a1
  have he : FloatKind.f32.encode (.number (sgn FloatKind.f64.format y) m (FloatKind.f64.format.leastPlace + (e : Int))) = FloatKind.f32.format.word (sgn FloatKind.f64.format y) r := r1
  have hw := er_word (sgn FloatKind.f64.format y) r2
  refine ⟨?_, (if sgn FloatKind.f64.format y then -(units FloatKind.f32.format r : Int) else (units FloatKind.f32.format r : Int)), ?_, ?_⟩
  · unfold fover
    rw [if_neg (by decide), hd]
    simp only [he]
    obtain ⟨m', e', b1, _⟩ := read_number FloatKind.f32.format hw.2.1
    have b2 : FloatKind.f32.decode (FloatKind.f32.format.word (sgn FloatKind.f64.format y) r) = _ := b1
    rw [b2]; rfl
  · unfold fconv
    rw [if_neg (by decide), hd]
    simp only [he]
    exact hw
  · have := er_sign (V := V) rfl hs.1 hs.2 r3 r4
    have e9 : (if sgn FloatKind.f64.format y = true then -(units FloatKind.f32.format r : Int) else (units FloatKind.f32.format r : Int)) * ((2 ^ 925 : Nat) : Int) =
        (if sgn FloatKind.f64.format y = true then -((units FloatKind.f32.format r * 2 ^ 925 : Nat) : Int) else ((units FloatKind.f32.format r * 2 ^ 925 : Nat) : Int)) := by
      split <;> simp only [Int.natCast_mul, Int.neg_mul]
    rw [e9]
    exact this
theorem pow2_is (n : Nat) : pow2 n = 2 ^ n := rfl
/-- The double word x is V units of the least place of doubles. -/
def apd (x : Nat) (V : Int) : Prop := rng FloatKind.f64.format x < FloatKind.f64.format.infRung ∧ sval FloatKind.f64.format x = V
theorem apd_up {x : Nat} {X : Int} (h : apx x X) : apd (up x) (X * ((2 ^ 925 : Nat) : Int)) := by
  obtain ⟨u1, u2, u3⟩ := up_number (x := x) h.2.1
  refine ⟨u2, ?_⟩
  have hk : upK = 2 ^ 925 := (show upK = pow2 925 from rfl).trans (pow2_is 925)
  have e : sval FloatKind.f64.format (up x) = if sgn FloatKind.f32.format x then -((units FloatKind.f32.format (rng FloatKind.f32.format x) * upK : Nat) : Int) else ((units FloatKind.f32.format (rng FloatKind.f32.format x) * upK : Nat) : Int) := by
    show sval Ieee.double (up x) = _
    unfold sval
    rw [u1, u3]; rfl
  rw [e, ← h.2.2, hk]
  unfold sval
  split <;> simp only [Int.natCast_mul, Int.neg_mul]
theorem read_small {x : Nat} {X : Int} (h : apx x X) : ∃ m e : Nat, m < 2 ^ 24 ∧ e ≤ 253 ∧ m * 2 ^ e = X.natAbs := by
  obtain ⟨m, e, a1, a2⟩ := read_number FloatKind.f32.format h.2.1
  rw [h.units] at a2
  rw [lp32] at a1
  obtain ⟨g1, g2, g3⟩ := read32 (x := x) a1
  exact ⟨m, e, g1, by omega, a2⟩
theorem apd_word (s : Bool) {r : Nat} (hr : r < FloatKind.f64.format.infRung) : apd (FloatKind.f64.format.word s r) (if s then -(units FloatKind.f64.format r : Int) else (units FloatKind.f64.format r : Int)) := by
  obtain ⟨w1, w2⟩ := rng_word .f64 s (Nat.le_of_lt hr)
  refine ⟨by rw [w1]; exact hr, ?_⟩
  unfold sval
  rw [w2, w1]
theorem apd.units {x : Nat} {V : Int} (h : apd x V) : units FloatKind.f64.format (rng FloatKind.f64.format x) = V.natAbs := by
  have := congrArg Int.natAbs h.2
  unfold sval at this
  split at this <;> simpa using this
theorem pow_4 {p q r s : Nat} (h : p + q = r + s) : (2 : Nat) ^ p * 2 ^ q = 2 ^ r * 2 ^ s := by rw [← Nat.pow_add, ← Nat.pow_add, h]
theorem pow_1850 (a b : Nat) : a * 2 ^ 925 * (b * 2 ^ 925) = a * b * 2 ^ 776 * 2 ^ 1074 := by
  have e : (2 : Nat) ^ 925 * 2 ^ 925 = 2 ^ 776 * 2 ^ 1074 := pow_4 (p := 925) (q := 925) (r := 776) (s := 1074) rfl
  rw [Nat.mul_mul_mul_comm, e, Nat.mul_assoc (a * b)]
/-- The product of two single numbers is exact in doubles. -/
theorem apd_mul {a c : Nat} {A C : Int} (ha : apx a A) (hc : apx c C) : apd (fop .mul .f64 (up a) (up c)) (A * C * ((2 ^ 776 : Nat) : Int)) := by
  obtain ⟨m, e, m1, e1, p1⟩ := read_small ha
  obtain ⟨n, d, n1, d1, p2⟩ := read_small hc
  have ua := apd_up ha
  have uc := apd_up hc
  obtain ⟨s1, _, _⟩ := up_number (x := a) ha.2.1
  obtain ⟨s2, _, _⟩ := up_number (x := c) hc.2.1
  obtain ⟨m', e', a1, a2⟩ := read_number FloatKind.f64.format ua.1
  obtain ⟨n', d', b1, b2⟩ := read_number FloatKind.f64.format uc.1
  rw [ua.units, Int.natAbs_mul, Int.natAbs_natCast] at a2
  rw [uc.units, Int.natAbs_mul, Int.natAbs_natCast] at b2
  have hmn : m * n ≤ 2 ^ 53 := Nat.le_trans (Nat.mul_le_mul (Nat.le_of_lt m1) (Nat.le_of_lt n1)) (by decide)
  obtain ⟨r, r1, r2⟩ := er_rep64 (n := m * n) (c := e + d + 776) hmn (by omega)
  have hr : units FloatKind.f64.format r = A.natAbs * C.natAbs * 2 ^ 776 := by
    rw [r2, Nat.pow_add, Nat.pow_add, ← p1, ← p2]
    generalize 2 ^ 776 = W
    simp only [Nat.mul_assoc, Nat.mul_comm, Nat.mul_left_comm]
  have hw : fop .mul .f64 (up a) (up c) = FloatKind.f64.format.word (sgn FloatKind.f64.format (up a) ^^ sgn FloatKind.f64.format (up c)) r := by
    unfold fop floatBits Ieee.Format.mul
    simp only [a1, b1, Ieee.Datum.product, Option.map_some, Option.getD_some]
    refine nearest_units FloatKind.f64.format _ (a := 1074) (b := e' + d') (Nat.le_of_lt r1) (by rw [lp64]; omega) ?_
    rw [hr, Nat.pow_add, Nat.mul_mul_mul_comm, a2, b2]
    exact pow_1850 _ _
  rw [hw]
  have h9 := apd_word (sgn FloatKind.f64.format (up a) ^^ sgn FloatKind.f64.format (up c)) r1
  have e9 : sgn FloatKind.f64.format (up a) = sgn FloatKind.f32.format a := s1
  have e8 : sgn FloatKind.f64.format (up c) = sgn FloatKind.f32.format c := s2
  rw [e9, e8] at h9 ⊢
  obtain ⟨t1, t2⟩ := sgn_xor ha hc
  refine ⟨h9.1, h9.2.trans ?_⟩
  rw [hr, ← Int.natAbs_mul, Int.natCast_mul]
  cases hs : (sgn FloatKind.f32.format a ^^ sgn FloatKind.f32.format c)
  · have := t2 hs
    simp only [Bool.false_eq_true, if_false]
    rw [Int.natAbs_of_nonneg this]
  · have := t1 hs
    simp only [if_true]
    rw [← Int.neg_mul, Int.ofNat_natAbs_of_nonpos this, Int.neg_neg]
/-- A zero that is added or taken away changes nothing; nothing less a number, neither. -/
theorem apd_sum0 (t : Bool) {x y : Nat} {V U : Int} (hx : apd x V) (hy : apd y U) {r : Nat} (hr : r < FloatKind.f64.format.infRung) (hu : units FloatKind.f64.format r = (V + (if t then -U else U)).natAbs) :
    apd (((((FloatKind.f64.format.read x).sum (if t then (FloatKind.f64.format.read y).opposite else FloatKind.f64.format.read y)).map FloatKind.f64.format.write).getD (qn .f64))) (V + (if t then -U else U)) := by
  obtain ⟨s, M, q, e1, e2, e3, e4⟩ := sum_units (k := .f64) hx.1 hy.1 t
  rw [hx.2, hy.2] at e2 e3 e4
  generalize V + (if t then -U else U) = W at *
  have hw : (((FloatKind.f64.format.read x).sum (if t then (FloatKind.f64.format.read y).opposite else FloatKind.f64.format.read y)).map FloatKind.f64.format.write).getD (qn .f64) = FloatKind.f64.format.word s r := by
    rw [e1]
    show FloatKind.f64.format.nearest s M _ = _
    refine nearest_units FloatKind.f64.format s (a := 0) (b := q) (Nat.le_of_lt hr) (by omega) ?_
    rw [e2, hu, Nat.pow_zero, Nat.mul_one]
  rw [hw]
  have h9 := apd_word s hr
  refine ⟨h9.1, h9.2.trans ?_⟩
  rw [hu]
  cases s
  · have := e4 rfl
    simp only [Bool.false_eq_true, if_false]
    omega
  · have := e3 rfl
    simp only [if_true]
    omega
theorem apd_add0 {x y : Nat} {V : Int} (hx : apd x V) (hy : apd y 0) : apd (fop .add .f64 x y) V := by
  have h := apd_sum0 false hx hy hx.1 (by rw [hx.units]; simp)
  have e : V + (if false = true then -(0 : Int) else 0) = V := by simp
  rw [e] at h
  exact h
theorem apd_sub0 {x y : Nat} {V : Int} (hx : apd x V) (hy : apd y 0) : apd (fop .sub .f64 x y) V := by
  have h := apd_sum0 true hx hy hx.1 (by rw [hx.units]; simp)
  have e : V + (if true = true then -(0 : Int) else 0) = V := by simp
  rw [e] at h
  exact h
def D9 : Nat := 2 ^ 925
theorem D9_is : 2 ^ 925 = D9 := by unfold D9; exact Eq.refl _
theorem er_narrowD {y : Nat} {V : Int} {c : Nat} (hc : c ≤ 200) (hy : apd y V) (h : V.natAbs ≤ 2 ^ 24 * 2 ^ c * D9) :
    fover .f64 .f32 y = false ∧ ∃ Z, apx (fconv .f64 .f32 y) Z ∧ V - ((2 ^ c : Nat) : Int) * (D9 : Int) ≤ Z * (D9 : Int) ∧ Z * (D9 : Int) ≤ V + ((2 ^ c : Nat) : Int) * (D9 : Int) := by
  have h9 := er_narrow (y := y) (V := V) (c := c) hc hy.1 hy.2
  rw [D9_is] at h9
  simp only [Int.natCast_mul] at h9
  exact h9 h
def D7 : Nat := 2 ^ 776
theorem D7_is : 2 ^ 776 = D7 := by unfold D7; exact Eq.refl _
theorem pow_split {p q r : Nat} (h : p = q + r) : (2 : Nat) ^ p = 2 ^ q * 2 ^ r := by rw [h, Nat.pow_add]
theorem D9_D7 : D9 = 2 ^ 149 * D7 := by rw [← D9_is, ← D7_is]; exact pow_split (p := 925) (q := 149) (r := 776) rfl
theorem apd_mulD {a c : Nat} {A C : Int} (ha : apx a A) (hc : apx c C) : apd (fop .mul .f64 (up a) (up c)) (A * C * (D7 : Int)) := by
  have h := apd_mul ha hc
  rw [D7_is] at h
  exact h
end Go.Proofs.Ytpoigbpaeniikaa


namespace Go.Proofs.Ytpoigbpaeniikaa
open Go.RowKit

/-- A zero, narrowed. -/
theorem er_zero {y : Nat} (hy : apd y 0) : fover .f64 .f32 y = false ∧ apx (fconv .f64 .f32 y) 0 := by
  obtain ⟨m, e, a1, a2⟩ := read_number FloatKind.f64.format hy.1
  rw [hy.units, Int.natAbs_zero] at a2
  have hm : m = 0 := by
    rcases Nat.eq_zero_or_pos m with h | h
    · exact h
    · have := Nat.mul_pos h (pow_pos' e); omega
  subst hm
  have hd : FloatKind.f64.decode y = .number (sgn FloatKind.f64.format y) 0 (FloatKind.f64.format.leastPlace + (e : Int)) := a1
  have he : FloatKind.f32.encode (.number (sgn FloatKind.f64.format y) 0 (FloatKind.f64.format.leastPlace + (e : Int))) = FloatKind.f32.format.word (sgn FloatKind.f64.format y) 0 := by
    show FloatKind.f32.format.nearest (sgn FloatKind.f64.format y) 0 (FloatKind.f64.format.leastPlace + (e : Int)) = _
    unfold Ieee.Format.nearest
    rw [if_pos rfl]
  have hw := er_word (sgn FloatKind.f64.format y) (r := 0) (by decide)
  refine ⟨?_, ?_⟩
  · unfold fover
    rw [if_neg (by decide), hd]
    simp only [he]
    obtain ⟨m', e', b1, _⟩ := read_number FloatKind.f32.format hw.2.1
    have b2 : FloatKind.f32.decode (FloatKind.f32.format.word (sgn FloatKind.f64.format y) 0) = _ := b1
    rw [b2]; rfl
  · unfold fconv
    rw [if_neg (by decide), hd]
    simp only [he]
    have e0 : (if sgn FloatKind.f64.format y = true then -(units FloatKind.f32.format 0 : Int) else (units FloatKind.f32.format 0 : Int)) = 0 := by
      rw [(units_zero FloatKind.f32.format).2 rfl]; simp
    rw [e0] at hw
    exact hw
section
variable {a b c d : Nat} {A C : Int}
theorem apd_mul0 {x y : Nat} {X : Int} (hx : apx x X) (hy : apx y 0) : apd (fop .mul .f64 (up x) (up y)) 0 := by
  have h := apd_mulD hx hy
  rw [Int.mul_zero, Int.zero_mul] at h
  exact h
theorem apd_mul0' {x y : Nat} {X : Int} (hx : apx x 0) (hy : apx y X) : apd (fop .mul .f64 (up x) (up y)) 0 := by
  have h := apd_mulD hx hy
  rw [Int.zero_mul, Int.zero_mul] at h
  exact h
end
end Go.Proofs.Ytpoigbpaeniikaa


namespace Go.Proofs.Ytpoigbpaeniikaa
open Go.RowKit

abbrev CP := Nat × Nat
def cT (p q : CP) : CP := (fconv .f64 .f32 (tc1 p.1 p.2 q.1 q.2), fconv .f64 .f32 (tc2 p.1 p.2 q.1 q.2))
def cO (p q : CP) : CP := (fconv .f64 .f32 (oc1 p.1 p.2 q.1 q.2), fconv .f64 .f32 (oc2 p.1 p.2 q.1 q.2))
def cM (p q : CP) : CP := (fop .sub .f32 p.1 q.1, fop .sub .f32 p.2 q.2)
abbrev tOk (p q : CP) : Prop := fover .f64 .f32 (tc1 p.1 p.2 q.1 q.2) = false ∧ fover .f64 .f32 (tc2 p.1 p.2 q.1 q.2) = false
abbrev oOk (p q : CP) : Prop := fover .f64 .f32 (oc1 p.1 p.2 q.1 q.2) = false ∧ fover .f64 .f32 (oc2 p.1 p.2 q.1 q.2) = false
def EF (A : Nat → Nat → CP) : Nat → Nat → Nat → CP
  | 0, i, j => A i j
  | k + 1, i, j => if k < i ∧ k < j then cM (EF A k i j) (cT (cO (EF A k i k) (EF A k k k)) (EF A k k j)) else EF A k i j
def XF (A : Nat → Nat → CP) (b : Nat → CP) : Nat → Nat → CP
  | 0, i => b i
  | k + 1, i => if k < i then cM (XF A b k i) (cT (cO (EF A k i k) (EF A k k k)) (XF A b k k)) else XF A b k i
def BS (U : Nat → Nat → CP) (Y : Nat → CP) (t : Nat) : Nat → CP
  | 0 => Y t
  | e + 1 => cM (BS U Y t e) (cT (U t (t + 1 + e)) (Y (t + 1 + e)))
def BF (n : Nat) (U : Nat → Nat → CP) (y : Nat → CP) : Nat → Nat → CP
  | 0, t => y t
  | d + 1, t => if t + 1 + d = n then cO (BS U (BF n U y d) t d) (U t t) else BF n U y d t
def solC (n : Nat) (A : Nat → Nat → CP) (b : Nat → CP) : List CP := (List.range n).map (BF n (EF A n) (XF A b n) n)
structure SOk (n : Nat) (A : Nat → Nat → CP) (b : Nat → CP) : Prop where
  piv : ∀ k r, k ≤ r → r < n → fover .f64 .f32 (pw64 (EF A k r k).1 (EF A k r k).2) = false
  pgt : ∀ k r, k < r → r < n → fcmp .gtr .f32 (pwr (EF A k r k).1 (EF A k r k).2) (pwr (EF A k k k).1 (EF A k k k).2) = false
  peq : ∀ k, k < n → fcmp .eql .f32 (pwr (EF A k k k).1 (EF A k k k).2) (pwr (EF A k k k).1 (EF A k k k).2) = true
  pos : ∀ k, k < n → fcmp .gtr .f32 (pwr (EF A k k k).1 (EF A k k k).2) 0 = true
  elo : ∀ k r, k < r → r < n → oOk (EF A k r k) (EF A k k k)
  elt : ∀ k r c, k < r → r < n → k < c → c < n → tOk (cO (EF A k r k) (EF A k k k)) (EF A k k c)
  elx : ∀ k r, k < r → r < n → tOk (cO (EF A k r k) (EF A k k k)) (XF A b k k)
  bkt : ∀ t d e, t + 1 + d = n → e < d → tOk (EF A n t (t + 1 + e)) (BF n (EF A n) (XF A b n) d (t + 1 + e))
  bko : ∀ t d, t + 1 + d = n → oOk (BS (EF A n) (BF n (EF A n) (XF A b n) d) t d) (EF A n t t)

theorem EF_zero (A : Nat → Nat → CP) (i j : Nat) : EF A 0 i j = A i j := rfl
theorem XF_zero (A : Nat → Nat → CP) (b : Nat → CP) (i : Nat) : XF A b 0 i = b i := rfl
theorem BF_zero (n : Nat) (U : Nat → Nat → CP) (y : Nat → CP) (i : Nat) : BF n U y 0 i = y i := rfl
theorem BS_zero (U : Nat → Nat → CP) (Y : Nat → CP) (t : Nat) : BS U Y t 0 = Y t := rfl
theorem EF_in {A : Nat → Nat → CP} {k i j : Nat} (h : k < i) (g : k < j) : EF A (k + 1) i j = cM (EF A k i j) (cT (cO (EF A k i k) (EF A k k k)) (EF A k k j)) := by
  rw [EF, if_pos ⟨h, g⟩]
theorem EF_out {A : Nat → Nat → CP} {k i j : Nat} (h : i ≤ k ∨ j ≤ k) : EF A (k + 1) i j = EF A k i j := by
  rw [EF, if_neg (by omega)]
theorem XF_in {A : Nat → Nat → CP} {b : Nat → CP} {k i : Nat} (h : k < i) : XF A b (k + 1) i = cM (XF A b k i) (cT (cO (EF A k i k) (EF A k k k)) (XF A b k k)) := by
  rw [XF, if_pos h]
theorem XF_out {A : Nat → Nat → CP} {b : Nat → CP} {k i : Nat} (h : i ≤ k) : XF A b (k + 1) i = XF A b k i := by
  rw [XF, if_neg (by omega)]
theorem BS_succ (U : Nat → Nat → CP) (Y : Nat → CP) (t e : Nat) : BS U Y t (e + 1) = cM (BS U Y t e) (cT (U t (t + 1 + e)) (Y (t + 1 + e))) := rfl
theorem BF_here {n d t : Nat} {U : Nat → Nat → CP} {y : Nat → CP} (h : t + 1 + d = n) : BF n U y (d + 1) t = cO (BS U (BF n U y d) t d) (U t t) := by rw [BF, if_pos h]
theorem BF_else {n d t : Nat} {U : Nat → Nat → CP} {y : Nat → CP} (h : t + 1 + d ≠ n) : BF n U y (d + 1) t = BF n U y d t := by rw [BF, if_neg h]
theorem csetD {α : Type} {xs : List α} {k i : Nat} {v d : α} (h : k < xs.length) : (xs.set k v).getD i d = if i = k then v else xs.getD i d := by
  by_cases e : i = k
  · subst e; simp [List.getD, h]
  · rw [if_neg e]; simp [List.getD, List.getElem?_set_ne (Ne.symm e)]
theorem cl_self {xs : List CP} {k : Nat} (h : k < xs.length) : (cl xs).set k (.complex .f32 (xs.getD k (0, 0)).1 (xs.getD k (0, 0)).2) = cl xs := by
  rw [cl_set]
  congr 1
  refine List.ext_getElem (by simp) fun i h1 h2 => ?_
  by_cases e : k = i
  · subst e; simp [List.getD, h]
  · simp [e]
theorem chd_self {f : Nat → Option Addr × Nat} {xss : List (List CP)} {k : Nat} (h : k < xss.length) : (chd f xss).set k (.slice (f k).1 (xss.getD k []).length (f k).2) = chd f xss := by
  refine List.ext_getElem? fun i => ?_
  by_cases e : k = i
  · subst e
    rw [List.getElem?_set_self (by rw [chd_length]; exact h), chd_get h]
  · rw [List.getElem?_set_ne e]
theorem chd_set {f : Nat → Option Addr × Nat} {xss : List (List CP)} {k : Nat} {row : List CP} (h : k < xss.length) (hr : row.length = (xss.getD k []).length) : chd f (xss.set k row) = chd f xss := by
  unfold chd
  rw [List.length_set]
  refine List.map_congr_left fun i _ => ?_
  rw [csetD h]
  by_cases e : i = k
  · rw [if_pos e, hr, e]
  · rw [if_neg e]
theorem chd_scal (f : Nat → Option Addr × Nat) (xss : List (List CP)) : (chd f xss).all scal = true := by simp [chd, scal]
theorem cl_inj {xs : List CP} (h : cl xs = []) : xs = [] := by
  cases xs with
  | nil => rfl
  | cons a b => simp [cl] at h
section
variable {P : Program} {w0 : World} {O : List Ent} {E : Env} {o : Oper}
theorem yr_as {u u' : Value} (e : u = u') (h : YR P E o u) : YR P E o u' := e ▸ h
theorem yq_loadC {t : TypeId} {x : Operand} {a : Option Addr} {k : Nat} {xs : List CP} (ho : o.op = .load t x) (ht : flatB P t = true) (hx : E.opd x = some (.pointer (some (adr a k)))) (hs : Sees w0 O a (cl xs)) (hk : k < xs.length) : YQ P w0 O E o (.complex .f32 (xs.getD k (0, 0)).1 (xs.getD k (0, 0)).2) :=
  yq_load ho ht hx hs (cl_get hk)
theorem yq_loadCH {t : TypeId} {x : Operand} {a : Option Addr} {k : Nat} {f : Nat → Option Addr × Nat} {xss : List (List CP)} (ho : o.op = .load t x) (ht : flatB P t = true) (hx : E.opd x = some (.pointer (some (adr a k)))) (hs : Sees w0 O a (chd f xss)) (hk : k < xss.length) : YQ P w0 O E o (.slice (f k).1 (xss.getD k []).length (f k).2) :=
  yq_load ho ht hx hs (chd_get hk)
end
/-- n rows of n numbers. -/
def Sq (n : Nat) (xss : List (List CP)) : Prop := xss.length = n ∧ ∀ i, i < n → (xss.getD i []).length = n
def en (xss : List (List CP)) (i j : Nat) : CP := (xss.getD i []).getD j (0, 0)
theorem Sq.set {n k : Nat} {xss : List (List CP)} {row : List CP} (h : Sq n xss) (hk : k < n) (hr : row.length = n) : Sq n (xss.set k row) := by
  refine ⟨by rw [List.length_set]; exact h.1, fun i hi => ?_⟩
  rw [csetD (by rw [h.1]; exact hk)]
  by_cases e : i = k
  · rw [if_pos e]; exact hr
  · rw [if_neg e]; exact h.2 i hi
/-- The rows that are cut out of a list. -/
def rws (n : Nat) (avs : List CP) (k : Nat) : List (List CP) := (List.range k).map fun i => (avs.drop (i * n)).take n
theorem rws_length (n : Nat) (avs : List CP) (k : Nat) : (rws n avs k).length = k := by simp [rws]
theorem rws_succ (n : Nat) (avs : List CP) (k : Nat) : rws n avs (k + 1) = rws n avs k ++ [(avs.drop (k * n)).take n] := by
  simp [rws, List.range_succ]
theorem rws_get {n k i : Nat} {avs : List CP} (h : i < k) : (rws n avs k).getD i [] = (avs.drop (i * n)).take n := by
  simp [rws, List.getD, h]
theorem rws_sq {n : Nat} {avs : List CP} (h : avs.length = n * n) : Sq n (rws n avs n) := by
  refine ⟨rws_length _ _ _, fun i hi => ?_⟩
  rw [rws_get hi, List.length_take, List.length_drop, h]
  have := Nat.mul_le_mul_right n (show i + 1 ≤ n from hi)
  rw [Nat.add_mul, Nat.one_mul] at this
  omega
theorem rws_en {n i j : Nat} {avs : List CP} (hi : i < n) (hj : j < n) : en (rws n avs n) i j = avs.getD (i * n + j) (0, 0) := by
  unfold en
  rw [rws_get hi]
  simp [List.getD, hj]
/-- The pivot that is known. -/
def bst (k r : Nat) : Int := if r ≤ k then -1 else (k : Int)
theorem bst_zero {k r : Nat} (h : r ≤ k) : bst k r = -1 := if_pos h
theorem bst_is {k r : Nat} (h : k < r) : bst k r = (k : Int) := if_neg (by omega)
theorem bst_lt {k r : Nat} (h : bst k r < 0) : r ≤ k := by
  unfold bst at h
  split at h
  · assumption
  · omega
theorem bst_ge {k r : Nat} (h : ¬ bst k r < 0) : k < r := by
  unfold bst at h
  split at h
  · omega
  · omega
theorem solC_is {n : Nat} {A : Nat → Nat → CP} {b : Nat → CP} {xs : List CP} (hl : xs.length = n) (h : ∀ i, i < n → xs.getD i (0, 0) = BF n (EF A n) (XF A b n) n i) : xs = solC n A b := by
  refine List.ext_getElem (by simp [solC, hl]) fun i h1 h2 => ?_
  have := h i (by omega)
  simp [List.getD, h1] at this
  rw [this]
  simp [solC]
theorem solC_length (n : Nat) (A : Nat → Nat → CP) (b : Nat → CP) : (solC n A b).length = n := by simp [solC]
theorem take_drop_length {n k : Nat} {avs : List CP} (h : avs.length = n * n) (hk : k < n) : ((avs.drop (k * n)).take n).length = n := by
  rw [List.length_take, List.length_drop, h]
  have := Nat.mul_le_mul_right n (show k + 1 ≤ n from hk)
  rw [Nat.add_mul, Nat.one_mul] at this
  omega
end Go.Proofs.Ytpoigbpaeniikaa


namespace Go.Proofs.Ytpoigbpaeniikaa
open Go.RowKit
set_option linter.unusedVariables false
set_option linter.unusedSimpArgs false
set_option maxRecDepth 20000

theorem elt60_Tk : Elt Try.prog 60 [Value.complex .f32 0 0] 8 := Elt.mk' (by kernel_rfl) (by decide)
theorem known33_Tk : Known Try.prog 33 := Known.mk' Try.func33 (by kernel_rfl)
theorem elt59_Tk : Elt Try.prog 59 [Value.slice none 0 0] 24 := Elt.mk' (by kernel_rfl) (by decide)
theorem sz60_Tk : (Try.prog.info? 60).map (·.size) = some 1 := by kernel_rfl
theorem known34_Tk : Known Try.prog 34 := Known.mk' Try.func34 (by kernel_rfl)
theorem sz59_Tk : (Try.prog.info? 59).map (·.size) = some 1 := by kernel_rfl
theorem fb59_Tk : flatB Try.prog 59 = true := by kernel_rfl
theorem fb60_Tk : flatB Try.prog 60 = true := by kernel_rfl
theorem known35_Tk : Known Try.prog 35 := Known.mk' Try.func35 (by kernel_rfl)
theorem mixed_Tk : Try.prog.follows .mixedOrders = true := by kernel_rfl
theorem known36_Tk : Known Try.prog 36 := Known.mk' Try.func36 (by kernel_rfl)
theorem known38_Tk : Known Try.prog 38 := Known.mk' Try.func38 (by kernel_rfl)
theorem known37_Tk : Known Try.prog 37 := Known.mk' Try.func37 (by kernel_rfl)
attribute [local irreducible] fop fcmp fconv fneg fabs List.getD EF XF BS BF

theorem c_cloneC {w : World} {a : Option Addr} {c : Nat} {xs : List CP} (hA : Cl w a (cl xs)) (hn : xs.length ≤ 1050000) : New Try.prog 34 [.slice a xs.length c] w (fun p : Option Addr × Nat => .slice p.1 xs.length p.2) (fun p => [⟨p.1, cl xs, p.2 * 1, 60⟩]) := by
  refine New.enter Try.func34 rfl Try.ntmps34 (Nat.le_of_ble_eq_true rfl) ?_
  refine V.seq ?_
  refine V.region ?_
  refine VL.r (.inl rfl) rfl (by decide) (yr_assign (u := .slice none 0 0) rfl rfl) ?_
  refine VL.nil ?_
  refine VE.then_wp ?_
  refine V.seq ?_
  refine V.seq ?_
  refine V.region ?_
  refine VL.r (.inl rfl) rfl (by decide) (yr_move rfl rfl) ?_
  refine VL.r (.inl rfl) rfl (by decide) (yr_nileq rfl Try.underlying59 rfl rfl) ?_
  refine VL.nil ?_
  refine VE.then_wp ?_
  refine V.cond rfl (fun h1 => ?_) (fun h1 => ?_)
  · skip
    refine V.seq ?_
    refine V.region ?_
    refine VL.r (.inl rfl) rfl (by decide) (yr_assign (u := .slice none 0 0) rfl rfl) ?_
    refine VL.nil ?_
    refine VE.then_wp ?_
    refine V.ret ?_
    refine VE.then_ret ?_
    refine ret1 rfl rfl (fun w1 hw => ?_)
    have hx : xs = [] := by
      rcases hA with h | ⟨p, h, _⟩
      · exact cl_inj h
      · rw [h] at h1; cases h1
    subst hx
    exact ⟨(none, 0), rfl, hw.below, by simp [cl, Ent.at], List.pairwise_singleton _ _⟩
  · skip
    refine V.skip ?_
    refine VE.then_wp ?_
    refine V.seq ?_
    refine V.region ?_
    refine VL.new1 (.inl rfl) rfl (by decide) (yn_lit rfl Try.underlying59 elt60_Tk rfl (by decide) .nil (by first | (simp; done) | (simp [cn, cn1, cn0]; done)) rfl rfl rfl) ?_
    intro b5
    refine VL.r (.inl rfl) rfl (by decide) (yr_move rfl rfl) ?_
    refine VL.c (.inl rfl) rfl (by decide) (yc_appendz 1 rfl rfl Try.underlying59 elt60_Tk rfl rfl (by repeat (first | exact UpdF.here | apply UpdF.there | apply UpdF.thereS)) (by first | exact Sees.root (by assumption) | exact Sees.own (by repeat (first | exact List.mem_cons_self | exact List.mem_append_left _ (by assumption) | apply List.mem_cons_of_mem | apply List.mem_append_right)) | exact Sees.root (hR _ (by omega)) | exact Sees.own (RowsIn.mem (by repeat (first | exact RowsIn.here | exact RowsIn.last | apply RowsIn.there | apply RowsIn.thereS)) _ (by omega)) | exact Sees.own (WRowsIn.mem (by repeat (first | exact WRowsIn.here | exact WRowsIn.last | apply WRowsIn.there | apply WRowsIn.thereS)) _ (by omega))) rfl (by simp) (by rw [cl_length]; omega) (by first | rfl | exact cl_scal _) (by first | rfl | exact cl_scal _) (by omega) (by omega)) ?_
    rintro ⟨a7, c7⟩
    refine VL.r (.inl rfl) rfl (by decide) (yr_assign rfl rfl) ?_
    refine VL.nil ?_
    refine VE.then_wp ?_
    refine V.ret ?_
    refine ret1 rfl rfl (fun w1 hw => ?_)
    exact ⟨(a7, c7), by simp, hw.out1⟩

theorem c_isSquare {w : World} {a : Option Addr} {c m n : Nat} (h0 : 1 ≤ n) (h6 : n ≤ 6) (hm : m = n * n) : Pure Try.prog 33 [.slice a m c, .int .i64 (n : Int)] w (.bool true) := by
  have hnn : n * n ≤ 36 := Nat.mul_le_mul h6 h6
  refine Pure.enter Try.func33 rfl Try.ntmps33 (Nat.le_of_ble_eq_true rfl) ?_
  refine V.seq ?_
  refine V.region ?_
  refine VL.r (.inl rfl) rfl (by decide) (yr_assign (u := .bool false) rfl rfl) ?_
  refine VL.nil ?_
  refine VE.then_wp ?_
  refine V.seq ?_
  refine V.region ?_
  refine VL.r (.inl rfl) rfl (by decide) (yr_move rfl rfl) ?_
  refine VL.r (.inl rfl) rfl (by decide) (yr_icmp rfl (.inr (.inr (.inr (.inr (.inr rfl))))) rfl rfl) ?_
  refine VL.r (.inl rfl) rfl (by decide) (yr_move rfl rfl) ?_
  refine VX.split 7 _ rfl (fun h1 => ?_) (fun h1 => ?_)
  · skip
    replace h1 := ic_geq h1
    refine VL.r (.inr ⟨_, _, _, rfl, rfl, rfl⟩) rfl (by decide) (yr_move rfl rfl) ?_
    refine VL.r (.inr ⟨_, _, _, rfl, rfl, rfl⟩) rfl (by decide) (yr_icmp rfl (.inr (.inr (.inr (.inl rfl)))) rfl rfl) ?_
    refine VL.r (.inl rfl) rfl (by decide) (yr_pick_t rfl rfl rfl) ?_
    refine VL.r (.inl rfl) rfl (by decide) (yr_move rfl rfl) ?_
    refine VX.split 11 _ rfl (fun h2 => ?_) (fun h2 => ?_)
    · skip
      replace h2 := ic_leq h2
      refine VL.r (.inr ⟨_, _, _, rfl, rfl, rfl⟩) rfl (by decide) (yr_move rfl rfl) ?_
      refine VL.r (.inr ⟨_, _, _, rfl, rfl, rfl⟩) rfl (by decide) (yr_len rfl Try.underlying59 rfl) ?_
      refine VL.r (.inr ⟨_, _, _, rfl, rfl, rfl⟩) rfl (by decide) (yr_move rfl rfl) ?_
      refine VL.r (.inr ⟨_, _, _, rfl, rfl, rfl⟩) rfl (by decide) (yr_move rfl rfl) ?_
      refine VL.r (.inr ⟨_, _, _, rfl, rfl, rfl⟩) rfl (by decide) (yr_mulN n n rfl rfl rfl (by omega) (by omega) (by omega)) ?_
      refine VL.r (.inr ⟨_, _, _, rfl, rfl, rfl⟩) rfl (by decide) (yr_icmp rfl (.inl rfl) rfl rfl) ?_
      refine VL.r (.inl rfl) rfl (by decide) (yr_pick_t rfl rfl rfl) ?_
      refine VL.r (.inl rfl) rfl (by decide) (yr_assign rfl rfl) ?_
      refine VL.nil ?_
      refine VE.then_wp ?_
      refine V.ret ?_
      refine ret1 rfl rfl (fun w1 hw => ?_)
      refine ⟨congrArg Value.bool ?_, hw.below⟩
      rw [hm]
      exact decide_eq_true rfl
    · skip
      replace h2 := ic_leq' h2
      exfalso; omega
  · skip
    replace h1 := ic_geq' h1
    exfalso; omega

set_option maxHeartbeats 2000000 in
theorem c_solveC {w : World} {a b : Option Addr} {c d n : Nat} {av bs : List CP} {A : Nat → Nat → CP} {B : Nat → CP} (hA : Cl w a (cl av)) (hB : Cl w b (cl bs)) (hal : av.length = n * n) (hbl : bs.length = n) (hn0 : 1 ≤ n) (hn6 : n ≤ 6) (hc : n * n ≤ c) (hAe : ∀ i j, i < n → j < n → av.getD (i * n + j) (0, 0) = A i j) (hBe : ∀ i, i < n → bs.getD i (0, 0) = B i) (hS : SOk n A B) : New Try.prog 28 [.slice a av.length c, .slice b bs.length d] w (fun p : Option Addr × Nat => .tuple #[.slice p.1 n p.2, .bool true]) (fun p => [⟨p.1, cl (solC n A B), p.2 * 1, 60⟩]) := by
  have hnn : n * n ≤ 36 := Nat.mul_le_mul hn6 hn6
  subst hbl
  rw [hal]
  refine New.enter Try.func28 rfl Try.ntmps28 (Nat.le_of_ble_eq_true rfl) ?_
  refine V.seq ?_
  refine V.region ?_
  refine VL.r (.inl rfl) rfl (by decide) (yr_assign (u := .slice none 0 0) rfl rfl) ?_
  refine VL.r (.inl rfl) rfl (by decide) (yr_assign (u := .bool false) rfl rfl) ?_
  refine VL.nil ?_
  refine VE.then_wp ?_
  refine V.seq ?_
  refine V.region ?_
  refine VL.r (.inl rfl) rfl (by decide) (yr_move rfl rfl) ?_
  refine VL.r (.inl rfl) rfl (by decide) (yr_len rfl Try.underlying59 rfl) ?_
  refine VL.r (.inl rfl) rfl (by decide) (yr_assign rfl rfl) ?_
  refine VL.nil ?_
  refine VE.then_wp ?_
  refine V.seq ?_
  refine V.seq ?_
  refine V.region ?_
  refine VL.r (.inl rfl) rfl (by decide) (yr_move rfl rfl) ?_
  refine VL.r (.inl rfl) rfl (by decide) (yr_move rfl rfl) ?_
  refine VL.q (.inl rfl) rfl (by decide) (yq_callf rfl known33_Tk (.cons rfl (.cons rfl .nil)) (fun w hw => (c_isSquare (by omega) (by omega) rfl))) ?_
  refine VL.r (.inl rfl) rfl (by decide) (yr_not rfl rfl) ?_
  refine VL.nil ?_
  refine VE.then_wp ?_
  refine V.cond rfl (fun h1 => ?_) (fun h1 => ?_)
  · skip
    replace h1 := bnot_t h1
    cases h1
  · skip
    replace h1 := bnot_f h1
    refine V.skip ?_
    refine VE.then_wp ?_
    refine V.seq ?_
    refine V.region ?_
    refine VL.new1 (.inl rfl) rfl (by decide) (yn_lit rfl Try.underlying67 elt59_Tk rfl (by decide) .nil (by first | (simp; done) | (simp [cn, cn1, cn0]; done)) rfl rfl rfl) ?_
    intro b25
    refine VL.r (.inl rfl) rfl (by decide) (yr_assign rfl rfl) ?_
    refine VL.nil ?_
    refine VE.then_wp ?_
    refine V.seq ?_
    refine V.seq ?_
    refine V.region ?_
    refine VL.r (.inl rfl) rfl (by decide) (yr_move rfl rfl) ?_
    refine VL.r (.inl rfl) rfl (by decide) (yr_move (u := .int .i64 0) rfl rfl) ?_
    refine VL.nil ?_
    refine VE.then_wp ?_
    refine V.block ?_
    refine V.loopc (G := (List (List CP)) × (Nat → Option Addr × Nat) × (Option Addr) × Nat) [(0, _), (1, _), (6, _), (26, _)] (fun ⟨xss, f, ah, ch⟩ => xss.length ≤ bs.length ∧ xss = rws bs.length av xss.length) (fun ⟨xss, f, ah, ch⟩ => (⟨ah, chd f (xss), ch * 1, 59⟩ :: (crents 60 f (xss) ++ []))) (fun ⟨xss, f, ah, ch⟩ => [(7, .slice ah xss.length ch), (27, .int .i64 (xss.length : Int))]) (fun ⟨xss, f, ah, ch⟩ => bs.length - xss.length) ([], fun _ => (none, 0), some ⟨b25, 0, none⟩, 0) (.cons rfl (.cons rfl (.cons rfl (.cons rfl .nil)))) (.cons rfl (.cons rfl .nil)) ?_ ?_ ?_
    · exact (fun w hw => hw)
    · exact (by exact ⟨Nat.zero_le _, rfl⟩)
    rintro ⟨xss, f, ah, ch⟩ ⟨hl9, hx9⟩
    show V _ _ _ (⟨ah, chd f (xss), ch * 1, 59⟩ :: (crents 60 f (xss) ++ [])) ([(7, .slice ah xss.length ch), (27, .int .i64 (xss.length : Int))] ++ [(0, _), (1, _), (6, _), (26, _)]) _ _
    refine V.seq ?_
    refine V.region ?_
    refine VL.r (.inl rfl) rfl (by decide) (yr_icmp rfl (.inr (.inr (.inl rfl))) rfl rfl) ?_
    refine VL.nil ?_
    refine VE.then_wp ?_
    refine V.seq ?_
    refine V.cond rfl (fun h2 => ?_) (fun h2 => ?_)
    · skip
      replace h2 := ic_lss h2
      have hlx : xss.length < bs.length := by omega
      have hmm : (xss.length + 1) * bs.length ≤ c := Nat.le_trans (Nat.mul_le_mul_right _ hlx) hc
      have hdf : (xss.length + 1) * bs.length - xss.length * bs.length = bs.length := by rw [Nat.add_mul, Nat.one_mul]; omega
      refine V.skip ?_
      refine VE.then_wp ?_
      refine V.seq ?_
      refine V.block ?_
      refine V.seq ?_
      refine V.region ?_
      refine VL.r (.inl rfl) rfl (by decide) (yr_move rfl rfl) ?_
      refine VL.r (.inl rfl) rfl (by decide) (yr_assign rfl rfl) ?_
      refine VL.nil ?_
      refine VE.then_wp ?_
      refine V.region ?_
      refine VL.r (.inl rfl) rfl (by decide) (yr_move rfl rfl) ?_
      refine VL.r (.inl rfl) rfl (by decide) (yr_move rfl rfl) ?_
      refine VL.r (.inl rfl) rfl (by decide) (yr_move rfl rfl) ?_
      refine VL.r (.inl rfl) rfl (by decide) (yr_move rfl rfl) ?_
      refine VL.r (.inl rfl) rfl (by decide) (yr_mulN xss.length bs.length rfl rfl rfl (by omega) (by omega) (by first | omega | (have := Nat.mul_le_mul (show xss.length ≤ bs.length by omega) (Nat.le_refl bs.length); omega) | (have := Nat.mul_le_mul (show xss.length + 1 ≤ bs.length by omega) (Nat.le_refl bs.length); omega))) ?_
      refine VL.r (.inl rfl) rfl (by decide) (yr_move rfl rfl) ?_
      refine VL.r (.inl rfl) rfl (by decide) (yr_int rfl rfl rfl (.inl ⟨rfl, wrap_in (by omega)⟩)) ?_
      refine VL.r (.inl rfl) rfl (by decide) (yr_move rfl rfl) ?_
      refine VL.r (.inl rfl) rfl (by decide) (yr_mulN (xss.length + 1) bs.length rfl rfl rfl (by omega) (by omega) (by first | omega | (have := Nat.mul_le_mul (show xss.length ≤ bs.length by omega) (Nat.le_refl bs.length); omega) | (have := Nat.mul_le_mul (show xss.length + 1 ≤ bs.length by omega) (Nat.le_refl bs.length); omega))) ?_
      refine VL.r (.inl rfl) rfl (by decide) (yr_as (u' := .slice (slA a (xss.length * bs.length) c 1) ((av.drop (xss.length * bs.length)).take bs.length).length (c - xss.length * bs.length)) (by rw [take_drop_length hal (by omega), hdf]) (yr_slice (l := xss.length * bs.length) (hh := (xss.length + 1) * bs.length) (mm := c) (z := 1) rfl Try.underlying59 sz60_Tk rfl (.at rfl (by first | rfl | (push_cast; rfl))) (.at rfl (by first | rfl | (push_cast; rfl))) .no (Nat.le_refl _) hmm (Nat.mul_le_mul_right _ (Nat.le_succ _)) (.inl rfl) (fun h => by cases h))) ?_
      refine VL.new1 (.inl rfl) rfl (by decide) (yn_callf rfl known34_Tk (.cons rfl .nil) (fun w hw => (c_cloneC (xs := (av.drop (xss.length * bs.length)).take bs.length) (by
            have h9 := (Sees.root hA).part (l := xss.length * bs.length) (hh := (xss.length + 1) * bs.length) (mm := c) (z := 1) hmm w hw
            rw [Nat.mul_one, Nat.mul_one, cl_drop, cl_take, hdf] at h9
            exact h9) (by rw [take_drop_length hal (by omega)]; omega)))) ?_
      rintro ⟨a40, c40⟩
      refine VL.new1 (.inl rfl) rfl (by decide) (yn_lit rfl Try.underlying67 elt59_Tk rfl (by decide) (.cons rfl .nil) (by first | (simp; done) | (simp [cn, cn1, cn0]; done)) rfl rfl rfl) ?_
      intro b41
      refine VL.c (.inl rfl) rfl (by decide) (yc_appendz 1 rfl rfl Try.underlying67 elt59_Tk rfl rfl (by repeat (first | exact UpdF.here | apply UpdF.there | apply UpdF.thereS)) (by first | exact Sees.root (by assumption) | exact Sees.own (by repeat (first | exact List.mem_cons_self | exact List.mem_append_left _ (by assumption) | apply List.mem_cons_of_mem | apply List.mem_append_right)) | exact Sees.root (hR _ (by omega)) | exact Sees.own (RowsIn.mem (by repeat (first | exact RowsIn.here | exact RowsIn.last | apply RowsIn.there | apply RowsIn.thereS)) _ (by omega)) | exact Sees.own (WRowsIn.mem (by repeat (first | exact WRowsIn.here | exact WRowsIn.last | apply WRowsIn.there | apply WRowsIn.thereS)) _ (by omega))) rfl (by first | (rw [chd_length, Nat.mul_one]; done) | rw [chd_length]) (by first | rfl | simp) (by first | rfl | exact chd_scal _ _) (by first | rfl | exact chd_scal _ _) (by omega) (by omega)) ?_
      rintro ⟨a42, c42⟩
      refine VL.r (.inl rfl) rfl (by decide) (yr_assign rfl rfl) ?_
      refine VL.nil ?_
      refine VE.block_normal ?_
      refine VE.then_wp ?_
      refine V.region ?_
      refine VL.r (.inl rfl) rfl (by decide) (yr_int rfl rfl rfl (.inl ⟨rfl, wrap_in (by omega)⟩)) ?_
      refine VL.r (.inl rfl) rfl (by decide) (yr_move rfl rfl) ?_
      refine VL.nil ?_
      refine VE.round (xss ++ [(av.drop (xss.length * bs.length)).take bs.length], upd f xss.length (a40, c40), a42, c42) ?_ ?_ ?_ ?_ ?_
      · exact (.cons (congrArg (fun n => some (Value.slice _ n _)) (by rw [List.length_append]; rfl)) (.cons (congrArg (fun i => some (Value.int .i64 i)) (by rw [List.length_append]; rfl)) .nil))
      · exact (.cons rfl (.cons rfl (.cons rfl (.cons rfl .nil))))
      · exact (fun w hw => by
          dsimp only
          simp only [← chd_snoc _ _ (a40, c40), ← crents_snoc _ _ _ (a40, c40), List.append_assoc, List.cons_append, List.nil_append, List.append_nil]
          exact hw.pick (by apply Pick.cons1; (· repeat (first | exact Rem.here | exact Rem.all | exact Rem.hereS | apply Rem.there | apply Rem.thereS)); apply Pick.app1; (· repeat (first | exact Rem.here | exact Rem.all | exact Rem.hereS | apply Rem.there | apply Rem.thereS)); exact Pick.one (by repeat (first | exact Rem.here | exact Rem.all | exact Rem.hereS | apply Rem.there | apply Rem.thereS))))
      · dsimp only
        rw [List.length_append]
        exact ⟨hlx, by show _ = rws bs.length av (xss.length + 1); rw [rws_succ, ← hx9]⟩
      · dsimp only; rw [List.length_append]; show bs.length - (xss.length + 1) < bs.length - xss.length; omega
    · skip
      replace h2 := ic_lss' h2
      have hln : xss.length = bs.length := by omega
      rw [hln] at hx9
      have hsq0 : Sq bs.length xss := by rw [hx9]; exact rws_sq hal
      have hen0 : ∀ i j, i < bs.length → j < bs.length → (xss.getD (i) []).getD (j) (0, 0) = EF A 0 i j := fun i j h1 h2 => by rw [hx9]; exact (rws_en h1 h2).trans ((hAe i j h1 h2).trans (EF_zero A i j).symm)
      refine V.exit ?_
      refine VE.then_exit ?_
      refine VE.then_exit ?_
      refine VE.block_here ?_
      refine VE.then_wp ?_
      refine V.seq ?_
      refine V.region ?_
      refine VL.r (.inl rfl) rfl (by decide) (yr_move rfl rfl) ?_
      refine VL.new1 (.inl rfl) rfl (by decide) (yn_callf rfl known34_Tk (.cons rfl .nil) (fun w hw => (c_cloneC (xs := bs) (by first | exact Sees.root (by assumption) w hw | exact Sees.own (by repeat (first | exact List.mem_cons_self | exact List.mem_append_left _ (by assumption) | apply List.mem_cons_of_mem | apply List.mem_append_right)) w hw) (by omega)))) ?_
      rintro ⟨a45, c45⟩
      refine VL.r (.inl rfl) rfl (by decide) (yr_assign rfl rfl) ?_
      refine VL.nil ?_
      refine VE.then_wp ?_
      refine V.seq ?_
      refine V.seq ?_
      refine V.region ?_
      refine VL.r (.inl rfl) rfl (by decide) (yr_move rfl rfl) ?_
      refine VL.r (.inl rfl) rfl (by decide) (yr_move (u := .int .i64 0) rfl rfl) ?_
      refine VL.nil ?_
      refine VE.then_wp ?_
      refine V.block ?_
      refine V.loopc (G := Nat × (List (List CP)) × (List CP)) [(6, _), (7, _), (9, _), (46, _)] (fun ⟨k, yss, xs⟩ => k ≤ bs.length ∧ Sq bs.length yss ∧ (∀ i j, i < bs.length → j < bs.length → (yss.getD (i) []).getD (j) (0, 0) = EF A k i j) ∧ xs.length = bs.length ∧ (∀ i, i < bs.length → xs.getD i (0, 0) = XF A B k i)) (fun ⟨k, yss, xs⟩ => (⟨a45, cl (xs), c45 * 1, 60⟩ :: ⟨ah, chd f (yss), ch * 1, 59⟩ :: (crents 60 f (yss) ++ []))) (fun ⟨k, yss, xs⟩ => [(47, .int .i64 (k : Int))]) (fun ⟨k, yss, xs⟩ => bs.length - k) (0, xss, bs) (.cons rfl (.cons rfl (.cons rfl (.cons rfl .nil)))) (.cons rfl .nil) ?_ ?_ ?_
      · exact (fun w hw => hw)
      · exact (by exact ⟨Nat.zero_le _, hsq0, hen0, rfl, fun i h1 => (hBe i h1).trans (XF_zero A B i).symm⟩)
      rintro ⟨k, yss, xs⟩ ⟨hk9, hsq, h7, hx8, hx7⟩
      show V _ _ _ (⟨a45, cl (xs), c45 * 1, 60⟩ :: ⟨ah, chd f (yss), ch * 1, 59⟩ :: (crents 60 f (yss) ++ [])) ([(47, .int .i64 (k : Int))] ++ [(6, _), (7, _), (9, _), (46, _)]) _ _
      have hyl := hsq.1
      refine V.seq ?_
      refine V.region ?_
      refine VL.r (.inl rfl) rfl (by decide) (yr_icmp rfl (.inr (.inr (.inl rfl))) rfl rfl) ?_
      refine VL.nil ?_
      refine VE.then_wp ?_
      refine V.seq ?_
      refine V.cond rfl (fun h3 => ?_) (fun h3 => ?_)
      · skip
        replace h3 := ic_lss h3
        have hk1 : k < bs.length := by omega
        have hyk := hsq.2 k hk1
        refine V.skip ?_
        refine VE.then_wp ?_
        refine V.seq ?_
        refine V.block ?_
        refine V.seq ?_
        refine V.region ?_
        refine VL.r (.inl rfl) rfl (by decide) (yr_move rfl rfl) ?_
        refine VL.r (.inl rfl) rfl (by decide) (yr_assign rfl rfl) ?_
        refine VL.nil ?_
        refine VE.then_wp ?_
        refine V.seq ?_
        refine V.region ?_
        refine VL.r (.inl rfl) rfl (by decide) (yr_assign (u := .int .i64 (-1)) rfl rfl) ?_
        refine VL.nil ?_
        refine VE.then_wp ?_
        refine V.seq ?_
        refine V.seq ?_
        refine V.region ?_
        refine VL.r (.inl rfl) rfl (by decide) (yr_move rfl rfl) ?_
        refine VL.r (.inl rfl) rfl (by decide) (yr_assign rfl rfl) ?_
        refine VL.nil ?_
        refine VE.then_wp ?_
        refine V.block ?_
        refine V.loops (G := Nat) [(6, _), (7, _), (9, _), (10, _), (46, _), (47, _)] (fun (r : Nat) => k ≤ r ∧ r ≤ bs.length) (fun (r : Nat) => [(11, .int .i64 (bst k r)), (12, .int .i64 (r : Int))]) (fun (r : Nat) => bs.length - r) k (.cons rfl (.cons rfl (.cons rfl (.cons rfl (.cons rfl (.cons rfl .nil)))))) (.cons (congrArg (fun i => some (Value.int .i64 i)) (by rw [bst_zero (Nat.le_refl _)])) (.cons rfl .nil)) ?_ ?_
        · exact (by exact ⟨Nat.le_refl _, by omega⟩)
        rintro r ⟨hkr0, hrn⟩
        show V _ _ _ _ ([(11, .int .i64 (bst k r)), (12, .int .i64 (r : Int))] ++ [(6, _), (7, _), (9, _), (10, _), (46, _), (47, _)]) _ _
        refine V.seq ?_
        refine V.seq ?_
        refine V.region ?_
        refine VL.r (.inl rfl) rfl (by decide) (yr_move rfl rfl) ?_
        refine VL.r (.inl rfl) rfl (by decide) (yr_move rfl rfl) ?_
        refine VL.r (.inl rfl) rfl (by decide) (yr_icmp rfl (.inr (.inr (.inl rfl))) rfl rfl) ?_
        refine VL.nil ?_
        refine VE.then_wp ?_
        refine V.cond rfl (fun h4 => ?_) (fun h4 => ?_)
        · skip
          replace h4 := ic_lss h4
          have hr1 : r < bs.length := by omega
          have hyr := hsq.2 r hr1
          refine V.skip ?_
          refine VE.then_wp ?_
          refine V.seq ?_
          refine V.block ?_
          refine V.seq ?_
          refine V.region ?_
          refine VL.r (.inl rfl) rfl (by decide) (yr_move rfl rfl) ?_
          refine VL.r (.inl rfl) rfl (by decide) (yr_move rfl rfl) ?_
          refine VL.q (.inl rfl) rfl (by decide) (yq_idx (k := r) rfl Try.underlying67 sz59_Tk rfl rfl (by first | exact Sees.root (by assumption) | exact Sees.own (by (try simp only [List.append_assoc, List.cons_append, List.nil_append, List.append_nil]); repeat (first | exact List.mem_cons_self | exact crentsBut_mem (by omega) (by omega) | exact crents_mem (by omega) | apply List.mem_cons_of_mem))) (by first | rfl | omega | (push_cast; rfl) | (push_cast; omega) | exact tmod_nat _ _) (by first | exact cl_length _ | exact chd_length _ _ | (rw [cl_length]; omega) | (rw [chd_length]; omega)) (by omega)) ?_
          refine VL.q (.inl rfl) rfl (by decide) (yq_loadCH rfl fb59_Tk rfl (by first | exact Sees.root (by assumption) | exact Sees.own (by (try simp only [List.append_assoc, List.cons_append, List.nil_append, List.append_nil]); repeat (first | exact List.mem_cons_self | exact crentsBut_mem (by omega) (by omega) | exact crents_mem (by omega) | apply List.mem_cons_of_mem))) (by omega)) ?_
          refine VL.r (.inl rfl) rfl (by decide) (yr_move rfl rfl) ?_
          refine VL.q (.inl rfl) rfl (by decide) (yq_idx (k := k) rfl Try.underlying59 sz60_Tk rfl rfl (by first | exact Sees.root (by assumption) | exact Sees.own (by (try simp only [List.append_assoc, List.cons_append, List.nil_append, List.append_nil]); repeat (first | exact List.mem_cons_self | exact crentsBut_mem (by omega) (by omega) | exact crents_mem (by omega) | apply List.mem_cons_of_mem))) (by first | rfl | omega | (push_cast; rfl) | (push_cast; omega) | exact tmod_nat _ _) (by first | exact cl_length _ | exact chd_length _ _ | (rw [cl_length]; omega) | (rw [chd_length]; omega)) (by omega)) ?_
          refine VL.q (.inl rfl) rfl (by decide) (yq_loadC rfl fb60_Tk rfl (by first | exact Sees.root (by assumption) | exact Sees.own (by (try simp only [List.append_assoc, List.cons_append, List.nil_append, List.append_nil]); repeat (first | exact List.mem_cons_self | exact crentsBut_mem (by omega) (by omega) | exact crents_mem (by omega) | apply List.mem_cons_of_mem))) (by omega)) ?_
          refine VL.q (.inl rfl) rfl (by decide) (yq_callf rfl known35_Tk (.cons rfl .nil) (fun w hw => (c_power (by rw [h7 r k (by omega) (by omega)]; exact hS.piv k r (by omega) (by omega))))) ?_
          refine VL.r (.inl rfl) rfl (by decide) (yr_assign rfl rfl) ?_
          refine VL.nil ?_
          refine VE.then_wp ?_
          refine V.seq ?_
          refine V.region ?_
          refine VL.r (.inl rfl) rfl (by decide) (yr_move rfl rfl) ?_
          refine VL.r (.inl rfl) rfl (by decide) (yr_move rfl rfl) ?_
          refine VL.r (.inl rfl) rfl (by decide) (yr_fcmp rfl (.inl rfl) rfl rfl) ?_
          refine VL.r (.inl rfl) rfl (by decide) (yr_move rfl rfl) ?_
          refine VX.split 67 _ rfl (fun h5 => ?_) (fun h5 => ?_)
          · skip
            refine VL.r (.inr ⟨_, _, _, rfl, rfl, rfl⟩) rfl (by decide) (yr_move rfl rfl) ?_
            refine VL.r (.inr ⟨_, _, _, rfl, rfl, rfl⟩) rfl (by decide) (yr_icmp rfl (.inr (.inr (.inl rfl))) rfl rfl) ?_
            refine VL.r (.inr ⟨_, _, _, rfl, rfl, rfl⟩) rfl (by decide) (yr_move rfl rfl) ?_
            refine VX.split 70 _ rfl (fun h6 => ?_) (fun h6 => ?_)
            · skip
              replace h6 := ic_lss h6
              obtain rfl : r = k := Nat.le_antisymm (bst_lt (by omega)) (by omega)
              refine VL.no rfl rfl rfl rfl rfl (by decide) ?_
              refine VL.no rfl rfl rfl rfl rfl (by decide) ?_
              refine VL.no rfl rfl rfl rfl rfl (by decide) ?_
              refine VL.no rfl rfl rfl rfl rfl (by decide) ?_
              refine VL.no rfl rfl rfl rfl rfl (by decide) ?_
              refine VL.no rfl rfl rfl rfl rfl (by decide) ?_
              refine VL.no rfl rfl rfl rfl rfl (by decide) ?_
              refine VL.no rfl rfl rfl rfl rfl (by decide) ?_
              refine VL.no rfl rfl rfl rfl rfl (by decide) ?_
              refine VL.no rfl rfl rfl rfl rfl (by decide) ?_
              refine VL.r (.inr ⟨_, _, _, rfl, rfl, rfl⟩) rfl (by decide) (yr_pick_t (u := .bool true) rfl rfl rfl) ?_
              refine VL.r (.inl rfl) rfl (by decide) (yr_pick_t rfl rfl rfl) ?_
              refine VL.nil ?_
              refine VE.then_wp ?_
              refine V.condT rfl ?_
              refine V.region ?_
              refine VL.r (.inl rfl) rfl (by decide) (yr_move rfl rfl) ?_
              refine VL.r (.inl rfl) rfl (by decide) (yr_assign rfl rfl) ?_
              refine VL.nil ?_
              refine VE.block_normal ?_
              refine VE.then_wp ?_
              refine V.region ?_
              refine VL.r (.inl rfl) rfl (by decide) (yr_move rfl rfl) ?_
              refine VL.r (.inl rfl) rfl (by decide) (yr_int rfl rfl rfl (.inl ⟨rfl, wrap_in (by omega)⟩)) ?_
              refine VL.r (.inl rfl) rfl (by decide) (yr_assign rfl rfl) ?_
              refine VL.nil ?_
              refine VE.round (r + 1) ?_ ?_ ?_ ?_ ?_
              · exact (.cons (congrArg (fun i => some (Value.int .i64 i)) (by first | (rw [bst_is (show k < r + 1 by omega), bst_is (show k < r by omega)]; done) | rw [bst_is (show r < r + 1 by omega)])) (.cons rfl .nil))
              · exact (.cons rfl (.cons rfl (.cons rfl (.cons rfl (.cons rfl (.cons rfl .nil))))))
              · exact (fun w hw => hw)
              · omega
              · (try dsimp only); omega
            · skip
              replace h6 := ic_lss' h6
              have hkr : k < r := bst_ge (by omega)
              have hbk : bst k r = (k : Int) := bst_is (bst_ge (by omega))
              refine VL.r (.inr ⟨_, _, _, rfl, rfl, rfl⟩) rfl (by decide) (yr_move rfl rfl) ?_
              refine VL.r (.inr ⟨_, _, _, rfl, rfl, rfl⟩) rfl (by decide) (yr_move rfl rfl) ?_
              refine VL.r (.inr ⟨_, _, _, rfl, rfl, rfl⟩) rfl (by decide) (yr_move rfl rfl) ?_
              refine VL.q (.inr ⟨_, _, _, rfl, rfl, rfl⟩) rfl (by decide) (yq_idx (k := k) rfl Try.underlying67 sz59_Tk rfl rfl (by first | exact Sees.root (by assumption) | exact Sees.own (by (try simp only [List.append_assoc, List.cons_append, List.nil_append, List.append_nil]); repeat (first | exact List.mem_cons_self | exact crentsBut_mem (by omega) (by omega) | exact crents_mem (by omega) | apply List.mem_cons_of_mem))) (by first | rfl | omega | (push_cast; rfl) | (push_cast; omega) | exact tmod_nat _ _) (by first | exact cl_length _ | exact chd_length _ _ | (rw [cl_length]; omega) | (rw [chd_length]; omega)) (by omega)) ?_
              refine VL.q (.inr ⟨_, _, _, rfl, rfl, rfl⟩) rfl (by decide) (yq_loadCH rfl fb59_Tk rfl (by first | exact Sees.root (by assumption) | exact Sees.own (by (try simp only [List.append_assoc, List.cons_append, List.nil_append, List.append_nil]); repeat (first | exact List.mem_cons_self | exact crentsBut_mem (by omega) (by omega) | exact crents_mem (by omega) | apply List.mem_cons_of_mem))) (by omega)) ?_
              refine VL.r (.inr ⟨_, _, _, rfl, rfl, rfl⟩) rfl (by decide) (yr_move rfl rfl) ?_
              refine VL.q (.inr ⟨_, _, _, rfl, rfl, rfl⟩) rfl (by decide) (yq_idx (k := k) rfl Try.underlying59 sz60_Tk rfl rfl (by first | exact Sees.root (by assumption) | exact Sees.own (by (try simp only [List.append_assoc, List.cons_append, List.nil_append, List.append_nil]); repeat (first | exact List.mem_cons_self | exact crentsBut_mem (by omega) (by omega) | exact crents_mem (by omega) | apply List.mem_cons_of_mem))) (by first | rfl | omega | (push_cast; rfl) | (push_cast; omega) | exact tmod_nat _ _) (by first | exact cl_length _ | exact chd_length _ _ | (rw [cl_length]; omega) | (rw [chd_length]; omega)) (by omega)) ?_
              refine VL.q (.inr ⟨_, _, _, rfl, rfl, rfl⟩) rfl (by decide) (yq_loadC rfl fb60_Tk rfl (by first | exact Sees.root (by assumption) | exact Sees.own (by (try simp only [List.append_assoc, List.cons_append, List.nil_append, List.append_nil]); repeat (first | exact List.mem_cons_self | exact crentsBut_mem (by omega) (by omega) | exact crents_mem (by omega) | apply List.mem_cons_of_mem))) (by omega)) ?_
              refine VL.q (.inr ⟨_, _, _, rfl, rfl, rfl⟩) rfl (by decide) (yq_callf rfl known35_Tk (.cons rfl .nil) (fun w hw => (c_power (by rw [h7 k k (by omega) (by omega)]; exact hS.piv k k (by omega) (by omega))))) ?_
              refine VL.r (.inr ⟨_, _, _, rfl, rfl, rfl⟩) rfl (by decide) (yr_fcmp rfl (.inr (.inr (.inr (.inr (.inl rfl))))) rfl rfl) ?_
              refine VL.r (.inr ⟨_, _, _, rfl, rfl, rfl⟩) rfl (by decide) (yr_pick_f rfl rfl rfl) ?_
              refine VL.r (.inl rfl) rfl (by decide) (yr_pick_t rfl rfl rfl) ?_
              refine VL.nil ?_
              refine VE.then_wp ?_
              refine V.cond rfl (fun h8 => ?_) (fun h8 => ?_)
              · skip
                rw [h7 r k (by omega) (by omega), h7 k k (by omega) (by omega), hS.pgt k r (bst_ge (by omega)) (by omega)] at h8; cases h8
              · skip
                refine V.skip ?_
                refine VE.block_normal ?_
                refine VE.then_wp ?_
                refine V.region ?_
                refine VL.r (.inl rfl) rfl (by decide) (yr_move rfl rfl) ?_
                refine VL.r (.inl rfl) rfl (by decide) (yr_int rfl rfl rfl (.inl ⟨rfl, wrap_in (by omega)⟩)) ?_
                refine VL.r (.inl rfl) rfl (by decide) (yr_assign rfl rfl) ?_
                refine VL.nil ?_
                refine VE.round (r + 1) ?_ ?_ ?_ ?_ ?_
                · exact (.cons (congrArg (fun i => some (Value.int .i64 i)) (by first | (rw [bst_is (show k < r + 1 by omega), bst_is (show k < r by omega)]; done) | rw [bst_is (show r < r + 1 by omega)])) (.cons rfl .nil))
                · exact (.cons rfl (.cons rfl (.cons rfl (.cons rfl (.cons rfl (.cons rfl .nil))))))
                · exact (fun w hw => hw)
                · omega
                · (try dsimp only); omega
          · skip
            have hkr : k < r := by
              rcases Nat.lt_or_ge k r with h | h
              · exact h
              · obtain rfl : r = k := by omega
                rw [h7 r r (by omega) (by omega), hS.peq r (by omega)] at h5
                cases h5
            refine VL.no rfl rfl rfl rfl rfl (by decide) ?_
            refine VL.no rfl rfl rfl rfl rfl (by decide) ?_
            refine VL.no rfl rfl rfl rfl rfl (by decide) ?_
            refine VL.noU rfl rfl rfl rfl (by decide) ?_
            refine VL.noU rfl rfl rfl rfl (by decide) ?_
            refine VL.noU rfl rfl rfl rfl (by decide) ?_
            refine VL.noU rfl rfl rfl rfl (by decide) ?_
            refine VL.noU rfl rfl rfl rfl (by decide) ?_
            refine VL.noU rfl rfl rfl rfl (by decide) ?_
            refine VL.noU rfl rfl rfl rfl (by decide) ?_
            refine VL.noU rfl rfl rfl rfl (by decide) ?_
            refine VL.noU rfl rfl rfl rfl (by decide) ?_
            refine VL.noU rfl rfl rfl rfl (by decide) ?_
            refine VL.no rfl rfl rfl rfl rfl (by decide) ?_
            refine VL.r (.inl rfl) rfl (by decide) (yr_pick_f (u := .bool false) rfl rfl rfl) ?_
            refine VL.nil ?_
            refine VE.then_wp ?_
            refine V.condF rfl ?_
            refine V.skip ?_
            refine VE.block_normal ?_
            refine VE.then_wp ?_
            refine V.region ?_
            refine VL.r (.inl rfl) rfl (by decide) (yr_move rfl rfl) ?_
            refine VL.r (.inl rfl) rfl (by decide) (yr_int rfl rfl rfl (.inl ⟨rfl, wrap_in (by omega)⟩)) ?_
            refine VL.r (.inl rfl) rfl (by decide) (yr_assign rfl rfl) ?_
            refine VL.nil ?_
            refine VE.round (r + 1) ?_ ?_ ?_ ?_ ?_
            · exact (.cons (congrArg (fun i => some (Value.int .i64 i)) (by first | (rw [bst_is (show k < r + 1 by omega), bst_is (show k < r by omega)]; done) | rw [bst_is (show r < r + 1 by omega)])) (.cons rfl .nil))
            · exact (.cons rfl (.cons rfl (.cons rfl (.cons rfl (.cons rfl (.cons rfl .nil))))))
            · exact (fun w hw => hw)
            · omega
            · (try dsimp only); omega
        · skip
          replace h4 := ic_lss' h4
          have hbk : bst k r = (k : Int) := bst_is (by omega)
          refine V.exit ?_
          refine VE.then_exit ?_
          refine VE.then_exit ?_
          refine VE.block_here ?_
          refine VE.then_wp ?_
          refine V.seq ?_
          refine V.seq ?_
          refine V.region ?_
          refine VL.r (.inl rfl) rfl (by decide) (yr_move rfl rfl) ?_
          refine VL.r (.inl rfl) rfl (by decide) (yr_icmp rfl (.inr (.inr (.inl rfl))) rfl rfl) ?_
          refine VL.r (.inl rfl) rfl (by decide) (yr_move rfl rfl) ?_
          refine VX.split 86 _ rfl (fun h10 => ?_) (fun h10 => ?_)
          · skip
            replace h10 := ic_lss h10
            exfalso; omega
          · skip
            replace h10 := ic_lss' h10
            refine VL.r (.inr ⟨_, _, _, rfl, rfl, rfl⟩) rfl (by decide) (yr_move rfl rfl) ?_
            refine VL.r (.inr ⟨_, _, _, rfl, rfl, rfl⟩) rfl (by decide) (yr_move rfl rfl) ?_
            refine VL.q (.inr ⟨_, _, _, rfl, rfl, rfl⟩) rfl (by decide) (yq_idx (k := k) rfl Try.underlying67 sz59_Tk rfl rfl (by first | exact Sees.root (by assumption) | exact Sees.own (by (try simp only [List.append_assoc, List.cons_append, List.nil_append, List.append_nil]); repeat (first | exact List.mem_cons_self | exact crentsBut_mem (by omega) (by omega) | exact crents_mem (by omega) | apply List.mem_cons_of_mem))) (by first | rfl | omega | (push_cast; rfl) | (push_cast; omega) | exact tmod_nat _ _) (by first | exact cl_length _ | exact chd_length _ _ | (rw [cl_length]; omega) | (rw [chd_length]; omega)) (by omega)) ?_
            refine VL.q (.inr ⟨_, _, _, rfl, rfl, rfl⟩) rfl (by decide) (yq_loadCH rfl fb59_Tk rfl (by first | exact Sees.root (by assumption) | exact Sees.own (by (try simp only [List.append_assoc, List.cons_append, List.nil_append, List.append_nil]); repeat (first | exact List.mem_cons_self | exact crentsBut_mem (by omega) (by omega) | exact crents_mem (by omega) | apply List.mem_cons_of_mem))) (by omega)) ?_
            refine VL.r (.inr ⟨_, _, _, rfl, rfl, rfl⟩) rfl (by decide) (yr_move rfl rfl) ?_
            refine VL.q (.inr ⟨_, _, _, rfl, rfl, rfl⟩) rfl (by decide) (yq_idx (k := k) rfl Try.underlying59 sz60_Tk rfl rfl (by first | exact Sees.root (by assumption) | exact Sees.own (by (try simp only [List.append_assoc, List.cons_append, List.nil_append, List.append_nil]); repeat (first | exact List.mem_cons_self | exact crentsBut_mem (by omega) (by omega) | exact crents_mem (by omega) | apply List.mem_cons_of_mem))) (by first | rfl | omega | (push_cast; rfl) | (push_cast; omega) | exact tmod_nat _ _) (by first | exact cl_length _ | exact chd_length _ _ | (rw [cl_length]; omega) | (rw [chd_length]; omega)) (by omega)) ?_
            refine VL.q (.inr ⟨_, _, _, rfl, rfl, rfl⟩) rfl (by decide) (yq_loadC rfl fb60_Tk rfl (by first | exact Sees.root (by assumption) | exact Sees.own (by (try simp only [List.append_assoc, List.cons_append, List.nil_append, List.append_nil]); repeat (first | exact List.mem_cons_self | exact crentsBut_mem (by omega) (by omega) | exact crents_mem (by omega) | apply List.mem_cons_of_mem))) (by omega)) ?_
            refine VL.q (.inr ⟨_, _, _, rfl, rfl, rfl⟩) rfl (by decide) (yq_callf rfl known35_Tk (.cons rfl .nil) (fun w hw => (c_power (by rw [h7 k k (by omega) (by omega)]; exact hS.piv k k (by omega) (by omega))))) ?_
            refine VL.r (.inr ⟨_, _, _, rfl, rfl, rfl⟩) rfl (by decide) (yr_fcmp (b := 0) rfl (.inr (.inr (.inr (.inr (.inl rfl))))) rfl rfl) ?_
            refine VL.r (.inr ⟨_, _, _, rfl, rfl, rfl⟩) rfl (by decide) (yr_not rfl rfl) ?_
            refine VL.r (.inl rfl) rfl (by decide) (yr_pick_f rfl rfl rfl) ?_
            refine VL.nil ?_
            refine VE.then_wp ?_
            refine V.cond rfl (fun h11 => ?_) (fun h11 => ?_)
            · skip
              replace h11 := bnot_t h11
              rw [h7 k k (by omega) (by omega), hS.pos k (by omega)] at h11; cases h11
            · skip
              replace h11 := bnot_f h11
              refine V.skip ?_
              refine VE.then_wp ?_
              refine V.seq ?_
              refine Dr.V.drawR [(0, 5), (1, 5), (2, 5), (3, 5), (4, 5), (5, 5), (8, 5), (9, 5), (6, 0), (7, 0), (10, 0), (11, 0), (12, 0), (13, 3), (14, 0), (15, 3)] [] [⟨ah, chd f (yss), ch * 1, 59⟩] _ mixed_Tk (by kernel_rfl) (fun w hw => Hp.pickS hw (by apply Pick.one; repeat (first | exact Rem.here | exact Rem.all | exact Rem.hereS | apply Rem.there | apply Rem.thereS))) ?_
              refine Dr.SW.r rfl (.inl rfl) rfl (by decide) (yr_move rfl rfl) ?_
              refine Dr.SW.r rfl (.inl rfl) rfl (by decide) (yr_move rfl rfl) ?_
              refine Dr.SW.r rfl (.inl rfl) rfl (by decide) (yr_move rfl rfl) ?_
              refine Dr.SW.r rfl (.inl rfl) rfl (by decide) (yr_move rfl rfl) ?_
              refine Dr.SW.r rfl (.inl rfl) rfl (by decide) (yr_move rfl rfl) ?_
              refine Dr.SW.r rfl (.inl rfl) rfl (by decide) (yr_move rfl rfl) ?_
              refine Dr.SW.r rfl (.inl rfl) rfl (by decide) (yr_move rfl rfl) ?_
              refine Dr.SW.r rfl (.inl rfl) rfl (by decide) (yr_move rfl rfl) ?_
              refine Dr.SW.q rfl (.inl rfl) rfl (by decide) (yq_idx (k := k) rfl Try.underlying67 sz59_Tk rfl rfl (by first | exact Sees.root (by assumption) | exact Sees.own (by (try simp only [List.append_assoc, List.cons_append, List.nil_append, List.append_nil]); repeat (first | exact List.mem_cons_self | exact crentsBut_mem (by omega) (by omega) | exact crents_mem (by omega) | apply List.mem_cons_of_mem))) (by first | rfl | omega | (push_cast; rfl) | (push_cast; omega) | exact tmod_nat _ _) (by first | exact cl_length _ | exact chd_length _ _ | (rw [cl_length]; omega) | (rw [chd_length]; omega)) (by omega)) ?_
              refine Dr.SW.q rfl (.inl rfl) rfl (by decide) (yq_loadCH rfl fb59_Tk rfl (by first | exact Sees.root (by assumption) | exact Sees.own (by (try simp only [List.append_assoc, List.cons_append, List.nil_append, List.append_nil]); repeat (first | exact List.mem_cons_self | exact crentsBut_mem (by omega) (by omega) | exact crents_mem (by omega) | apply List.mem_cons_of_mem))) (by omega)) ?_
              refine Dr.SW.q rfl (.inl rfl) rfl (by decide) (yq_idx (k := k) rfl Try.underlying67 sz59_Tk rfl rfl (by first | exact Sees.root (by assumption) | exact Sees.own (by (try simp only [List.append_assoc, List.cons_append, List.nil_append, List.append_nil]); repeat (first | exact List.mem_cons_self | exact crentsBut_mem (by omega) (by omega) | exact crents_mem (by omega) | apply List.mem_cons_of_mem))) (by first | rfl | omega | (push_cast; rfl) | (push_cast; omega) | exact tmod_nat _ _) (by first | exact cl_length _ | exact chd_length _ _ | (rw [cl_length]; omega) | (rw [chd_length]; omega)) (by omega)) ?_
              refine Dr.SW.q rfl (.inl rfl) rfl (by decide) (yq_loadCH rfl fb59_Tk rfl (by first | exact Sees.root (by assumption) | exact Sees.own (by (try simp only [List.append_assoc, List.cons_append, List.nil_append, List.append_nil]); repeat (first | exact List.mem_cons_self | exact crentsBut_mem (by omega) (by omega) | exact crents_mem (by omega) | apply List.mem_cons_of_mem))) (by omega)) ?_
              refine Dr.SW.q rfl (.inl rfl) rfl (by decide) (yq_idx (k := k) rfl Try.underlying67 sz59_Tk rfl rfl (by first | exact Sees.root (by assumption) | exact Sees.own (by (try simp only [List.append_assoc, List.cons_append, List.nil_append, List.append_nil]); repeat (first | exact List.mem_cons_self | exact crentsBut_mem (by omega) (by omega) | exact crents_mem (by omega) | apply List.mem_cons_of_mem))) (by first | rfl | omega | (push_cast; rfl) | (push_cast; omega) | exact tmod_nat _ _) (by first | exact cl_length _ | exact chd_length _ _ | (rw [cl_length]; omega) | (rw [chd_length]; omega)) (by omega)) ?_
              refine Dr.SW.s rfl (.inl rfl) rfl (yc_store rfl sz59_Tk rfl rfl (Dr.UpdF.app (by repeat (first | exact UpdF.here | apply UpdF.there | apply UpdF.thereS))) (.inl ⟨rfl, rfl⟩) rfl (by rw [chd_length]; omega) (by decide) (chd_self (by omega))) ?_
              rintro ⟨⟩
              refine Dr.SW.q rfl (.inl rfl) rfl (by decide) (yq_idx (k := k) rfl Try.underlying67 sz59_Tk rfl rfl (by first | exact Sees.root (by assumption) | exact Sees.own (by (try simp only [List.append_assoc, List.cons_append, List.nil_append, List.append_nil]); repeat (first | exact List.mem_cons_self | exact crentsBut_mem (by omega) (by omega) | exact crents_mem (by omega) | apply List.mem_cons_of_mem))) (by first | rfl | omega | (push_cast; rfl) | (push_cast; omega) | exact tmod_nat _ _) (by first | exact cl_length _ | exact chd_length _ _ | (rw [cl_length]; omega) | (rw [chd_length]; omega)) (by omega)) ?_
              refine Dr.SW.s rfl (.inl rfl) rfl (yc_store rfl sz59_Tk rfl rfl (Dr.UpdF.app (by repeat (first | exact UpdF.here | apply UpdF.there | apply UpdF.thereS))) (.inl ⟨rfl, rfl⟩) rfl (by rw [chd_length]; omega) (by decide) (chd_self (by omega))) ?_
              rintro ⟨⟩
              refine Dr.SW.done ?_
              refine Dr.eqO (by simp only [List.append_nil, List.append_assoc, List.cons_append, List.nil_append] <;> rfl) ?_
              refine VE.then_wp ?_
              refine V.seq ?_
              refine Dr.V.drawR [(0, 5), (1, 5), (2, 5), (3, 5), (4, 5), (5, 5), (8, 5), (9, 5), (6, 0), (7, 0), (10, 0), (11, 0), (12, 0), (13, 3), (14, 0), (15, 3)] [] [⟨a45, cl (xs), c45 * 1, 60⟩] _ mixed_Tk (by kernel_rfl) (fun w hw => Hp.pickS hw (by apply Pick.one; repeat (first | exact Rem.here | exact Rem.all | exact Rem.hereS | apply Rem.there | apply Rem.thereS))) ?_
              refine Dr.SW.r rfl (.inl rfl) rfl (by decide) (yr_move rfl rfl) ?_
              refine Dr.SW.r rfl (.inl rfl) rfl (by decide) (yr_move rfl rfl) ?_
              refine Dr.SW.r rfl (.inl rfl) rfl (by decide) (yr_move rfl rfl) ?_
              refine Dr.SW.r rfl (.inl rfl) rfl (by decide) (yr_move rfl rfl) ?_
              refine Dr.SW.r rfl (.inl rfl) rfl (by decide) (yr_move rfl rfl) ?_
              refine Dr.SW.r rfl (.inl rfl) rfl (by decide) (yr_move rfl rfl) ?_
              refine Dr.SW.r rfl (.inl rfl) rfl (by decide) (yr_move rfl rfl) ?_
              refine Dr.SW.r rfl (.inl rfl) rfl (by decide) (yr_move rfl rfl) ?_
              refine Dr.SW.q rfl (.inl rfl) rfl (by decide) (yq_idx (k := k) rfl Try.underlying59 sz60_Tk rfl rfl (by first | exact Sees.root (by assumption) | exact Sees.own (by (try simp only [List.append_assoc, List.cons_append, List.nil_append, List.append_nil]); repeat (first | exact List.mem_cons_self | exact crentsBut_mem (by omega) (by omega) | exact crents_mem (by omega) | apply List.mem_cons_of_mem))) (by first | rfl | omega | (push_cast; rfl) | (push_cast; omega) | exact tmod_nat _ _) (by first | exact cl_length _ | exact chd_length _ _ | (rw [cl_length]; omega) | (rw [chd_length]; omega)) (by omega)) ?_
              refine Dr.SW.q rfl (.inl rfl) rfl (by decide) (yq_loadC rfl fb60_Tk rfl (by first | exact Sees.root (by assumption) | exact Sees.own (by (try simp only [List.append_assoc, List.cons_append, List.nil_append, List.append_nil]); repeat (first | exact List.mem_cons_self | exact crentsBut_mem (by omega) (by omega) | exact crents_mem (by omega) | apply List.mem_cons_of_mem))) (by omega)) ?_
              refine Dr.SW.q rfl (.inl rfl) rfl (by decide) (yq_idx (k := k) rfl Try.underlying59 sz60_Tk rfl rfl (by first | exact Sees.root (by assumption) | exact Sees.own (by (try simp only [List.append_assoc, List.cons_append, List.nil_append, List.append_nil]); repeat (first | exact List.mem_cons_self | exact crentsBut_mem (by omega) (by omega) | exact crents_mem (by omega) | apply List.mem_cons_of_mem))) (by first | rfl | omega | (push_cast; rfl) | (push_cast; omega) | exact tmod_nat _ _) (by first | exact cl_length _ | exact chd_length _ _ | (rw [cl_length]; omega) | (rw [chd_length]; omega)) (by omega)) ?_
              refine Dr.SW.q rfl (.inl rfl) rfl (by decide) (yq_loadC rfl fb60_Tk rfl (by first | exact Sees.root (by assumption) | exact Sees.own (by (try simp only [List.append_assoc, List.cons_append, List.nil_append, List.append_nil]); repeat (first | exact List.mem_cons_self | exact crentsBut_mem (by omega) (by omega) | exact crents_mem (by omega) | apply List.mem_cons_of_mem))) (by omega)) ?_
              refine Dr.SW.q rfl (.inl rfl) rfl (by decide) (yq_idx (k := k) rfl Try.underlying59 sz60_Tk rfl rfl (by first | exact Sees.root (by assumption) | exact Sees.own (by (try simp only [List.append_assoc, List.cons_append, List.nil_append, List.append_nil]); repeat (first | exact List.mem_cons_self | exact crentsBut_mem (by omega) (by omega) | exact crents_mem (by omega) | apply List.mem_cons_of_mem))) (by first | rfl | omega | (push_cast; rfl) | (push_cast; omega) | exact tmod_nat _ _) (by first | exact cl_length _ | exact chd_length _ _ | (rw [cl_length]; omega) | (rw [chd_length]; omega)) (by omega)) ?_
              refine Dr.SW.s rfl (.inl rfl) rfl (yc_store rfl sz60_Tk rfl rfl (Dr.UpdF.app (by repeat (first | exact UpdF.here | apply UpdF.there | apply UpdF.thereS))) (.inl ⟨rfl, rfl⟩) rfl (by rw [cl_length]; omega) (by decide) (cl_self (by omega))) ?_
              rintro ⟨⟩
              refine Dr.SW.q rfl (.inl rfl) rfl (by decide) (yq_idx (k := k) rfl Try.underlying59 sz60_Tk rfl rfl (by first | exact Sees.root (by assumption) | exact Sees.own (by (try simp only [List.append_assoc, List.cons_append, List.nil_append, List.append_nil]); repeat (first | exact List.mem_cons_self | exact crentsBut_mem (by omega) (by omega) | exact crents_mem (by omega) | apply List.mem_cons_of_mem))) (by first | rfl | omega | (push_cast; rfl) | (push_cast; omega) | exact tmod_nat _ _) (by first | exact cl_length _ | exact chd_length _ _ | (rw [cl_length]; omega) | (rw [chd_length]; omega)) (by omega)) ?_
              refine Dr.SW.s rfl (.inl rfl) rfl (yc_store rfl sz60_Tk rfl rfl (Dr.UpdF.app (by repeat (first | exact UpdF.here | apply UpdF.there | apply UpdF.thereS))) (.inl ⟨rfl, rfl⟩) rfl (by rw [cl_length]; omega) (by decide) (cl_self (by omega))) ?_
              rintro ⟨⟩
              refine Dr.SW.done ?_
              refine Dr.eqO (by simp only [List.append_nil, List.append_assoc, List.cons_append, List.nil_append] <;> rfl) ?_
              refine VE.then_wp ?_
              refine V.seq ?_
              refine V.region ?_
              refine VL.r (.inl rfl) rfl (by decide) (yr_move rfl rfl) ?_
              refine VL.r (.inl rfl) rfl (by decide) (yr_int rfl rfl rfl (.inl ⟨rfl, wrap_in (by omega)⟩)) ?_
              refine VL.r (.inl rfl) rfl (by decide) (yr_assign rfl rfl) ?_
              refine VL.nil ?_
              refine VE.then_wp ?_
              refine V.block ?_
              refine V.loopc (G := Nat × (List (List CP)) × (List CP)) [(6, _), (7, _), (9, _), (10, _), (46, _), (47, _)] (fun ⟨r, zss, us⟩ => k + 1 ≤ r ∧ r ≤ bs.length ∧ Sq bs.length zss ∧ (∀ i j, i < bs.length → j < bs.length → (zss.getD (i) []).getD (j) (0, 0) = if i < r then EF A (k + 1) i j else EF A k i j) ∧ us.length = bs.length ∧ (∀ i, i < bs.length → us.getD i (0, 0) = if i < r then XF A B (k + 1) i else XF A B k i)) (fun ⟨r, zss, us⟩ => (⟨a45, cl (us), c45 * 1, 60⟩ :: ⟨ah, chd f (zss), ch * 1, 59⟩ :: (crents 60 f (zss) ++ []))) (fun ⟨r, zss, us⟩ => [(14, .int .i64 (r : Int))]) (fun ⟨r, zss, us⟩ => bs.length - r) (k + 1, yss, xs) (.cons rfl (.cons rfl (.cons rfl (.cons rfl (.cons rfl (.cons rfl .nil)))))) (.cons (congrArg (fun i => some (Value.int .i64 i)) (by omega)) .nil) ?_ ?_ ?_
              · exact (fun w hw => by dsimp only; rw [List.append_nil]; exact hw)
              · exact (by exact ⟨Nat.le_refl _, hk1, hsq, fun i j h1 h2 => by rw [h7 i j h1 h2]; split; (rw [EF_out (by omega)]); rfl, hx8, fun i h1 => by rw [hx7 i h1]; split; (rw [XF_out (by omega)]); rfl⟩)
              rintro ⟨r, zss, us⟩ ⟨hkr1, hrn1, hz1, h8, hu1, h9⟩
              show V _ _ _ (⟨a45, cl (us), c45 * 1, 60⟩ :: ⟨ah, chd f (zss), ch * 1, 59⟩ :: (crents 60 f (zss) ++ [])) ([(14, .int .i64 (r : Int))] ++ [(6, _), (7, _), (9, _), (10, _), (46, _), (47, _)]) _ _
              refine V.seq ?_
              refine V.seq ?_
              refine V.region ?_
              refine VL.r (.inl rfl) rfl (by decide) (yr_move rfl rfl) ?_
              refine VL.r (.inl rfl) rfl (by decide) (yr_move rfl rfl) ?_
              refine VL.r (.inl rfl) rfl (by decide) (yr_icmp rfl (.inr (.inr (.inl rfl))) rfl rfl) ?_
              refine VL.nil ?_
              refine VE.then_wp ?_
              refine V.cond rfl (fun h12 => ?_) (fun h12 => ?_)
              · skip
                replace h12 := ic_lss h12
                have hr1 : r < bs.length := by omega
                have hz0 := hz1.1
                have hzr := hz1.2 r hr1
                have hzk := hz1.2 k hk1
                have q1 : (zss.getD (r) []).getD (k) (0, 0) = EF A k r k := by rw [h8 r k (by omega) (by omega), if_neg (Nat.lt_irrefl r)]
                have q2 : (zss.getD (k) []).getD (k) (0, 0) = EF A k k k := by rw [h8 k k (by omega) (by omega), if_pos (show k < r by omega), EF_out (by omega)]
                have hov : oOk ((zss.getD (r) []).getD (k) (0, 0)) ((zss.getD (k) []).getD (k) (0, 0)) := by rw [q1, q2]; exact hS.elo k r (by omega) hr1
                have q3 : us.getD k (0, 0) = XF A B k k := by rw [h9 k (by omega), if_pos (show k < r by omega), XF_out (by omega)]
                have hox : tOk (cO ((zss.getD (r) []).getD (k) (0, 0)) ((zss.getD (k) []).getD (k) (0, 0))) (us.getD k (0, 0)) := by rw [q1, q2, q3]; exact hS.elx k r (by omega) hr1
                refine VX.own (O' := ⟨(f r).1, cl (zss.getD r []), (f r).2 * 1, 60⟩ :: ⟨a45, cl (us), c45 * 1, 60⟩ :: ⟨ah, chd f (zss), ch * 1, 59⟩ :: (crentsBut 60 f zss r ++ [])) (fun w hw => Hp.crowOut (A := [_, _]) (T := []) (k := r) (by omega) hw) ?_
                refine V.skip ?_
                refine VE.then_wp ?_
                refine V.seq ?_
                refine V.block ?_
                refine V.seq ?_
                refine V.draw [(0, 0), (1, 0), (2, 0), (3, 0), (4, 0), (5, 0), (6, 0), (7, 0), (8, 0), (9, 0), (10, 0), (11, 0), (12, 0), (13, 0), (14, 0), (15, 0)] mixed_Tk (by kernel_rfl) (by intro j o hj; simp at hj) ?_
                refine SW.r rfl (.inl rfl) rfl (by decide) (yr_move rfl rfl) ?_
                refine SW.r rfl (.inl rfl) rfl (by decide) (yr_move rfl rfl) ?_
                refine SW.q rfl (.inl rfl) rfl (by decide) (yq_idx (k := r) rfl Try.underlying67 sz59_Tk rfl rfl (by first | exact Sees.root (by assumption) | exact Sees.own (by (try simp only [List.append_assoc, List.cons_append, List.nil_append, List.append_nil]); repeat (first | exact List.mem_cons_self | exact crentsBut_mem (by omega) (by omega) | exact crents_mem (by omega) | apply List.mem_cons_of_mem))) (by first | rfl | omega | (push_cast; rfl) | (push_cast; omega) | exact tmod_nat _ _) (by first | exact cl_length _ | exact chd_length _ _ | (rw [cl_length]; omega) | (rw [chd_length]; omega)) (by omega)) ?_
                refine SW.q rfl (.inl rfl) rfl (by decide) (yq_loadCH rfl fb59_Tk rfl (by first | exact Sees.root (by assumption) | exact Sees.own (by (try simp only [List.append_assoc, List.cons_append, List.nil_append, List.append_nil]); repeat (first | exact List.mem_cons_self | exact crentsBut_mem (by omega) (by omega) | exact crents_mem (by omega) | apply List.mem_cons_of_mem))) (by omega)) ?_
                refine SW.r rfl (.inl rfl) rfl (by decide) (yr_move rfl rfl) ?_
                refine SW.q rfl (.inl rfl) rfl (by decide) (yq_idx (k := k) rfl Try.underlying59 sz60_Tk rfl rfl (by first | exact Sees.root (by assumption) | exact Sees.own (by (try simp only [List.append_assoc, List.cons_append, List.nil_append, List.append_nil]); repeat (first | exact List.mem_cons_self | exact crentsBut_mem (by omega) (by omega) | exact crents_mem (by omega) | apply List.mem_cons_of_mem))) (by first | rfl | omega | (push_cast; rfl) | (push_cast; omega) | exact tmod_nat _ _) (by first | exact cl_length _ | exact chd_length _ _ | (rw [cl_length]; omega) | (rw [chd_length]; omega)) (by omega)) ?_
                refine SW.q rfl (.inl rfl) rfl (by decide) (yq_loadC rfl fb60_Tk rfl (by first | exact Sees.root (by assumption) | exact Sees.own (by (try simp only [List.append_assoc, List.cons_append, List.nil_append, List.append_nil]); repeat (first | exact List.mem_cons_self | exact crentsBut_mem (by omega) (by omega) | exact crents_mem (by omega) | apply List.mem_cons_of_mem))) (by omega)) ?_
                refine SW.r rfl (.inl rfl) rfl (by decide) (yr_move rfl rfl) ?_
                refine SW.r rfl (.inl rfl) rfl (by decide) (yr_move rfl rfl) ?_
                refine SW.q rfl (.inl rfl) rfl (by decide) (yq_idx (k := k) rfl Try.underlying67 sz59_Tk rfl rfl (by first | exact Sees.root (by assumption) | exact Sees.own (by (try simp only [List.append_assoc, List.cons_append, List.nil_append, List.append_nil]); repeat (first | exact List.mem_cons_self | exact crentsBut_mem (by omega) (by omega) | exact crents_mem (by omega) | apply List.mem_cons_of_mem))) (by first | rfl | omega | (push_cast; rfl) | (push_cast; omega) | exact tmod_nat _ _) (by first | exact cl_length _ | exact chd_length _ _ | (rw [cl_length]; omega) | (rw [chd_length]; omega)) (by omega)) ?_
                refine SW.q rfl (.inl rfl) rfl (by decide) (yq_loadCH rfl fb59_Tk rfl (by first | exact Sees.root (by assumption) | exact Sees.own (by (try simp only [List.append_assoc, List.cons_append, List.nil_append, List.append_nil]); repeat (first | exact List.mem_cons_self | exact crentsBut_mem (by omega) (by omega) | exact crents_mem (by omega) | apply List.mem_cons_of_mem))) (by omega)) ?_
                refine SW.r rfl (.inl rfl) rfl (by decide) (yr_move rfl rfl) ?_
                refine SW.q rfl (.inl rfl) rfl (by decide) (yq_idx (k := k) rfl Try.underlying59 sz60_Tk rfl rfl (by first | exact Sees.root (by assumption) | exact Sees.own (by (try simp only [List.append_assoc, List.cons_append, List.nil_append, List.append_nil]); repeat (first | exact List.mem_cons_self | exact crentsBut_mem (by omega) (by omega) | exact crents_mem (by omega) | apply List.mem_cons_of_mem))) (by first | rfl | omega | (push_cast; rfl) | (push_cast; omega) | exact tmod_nat _ _) (by first | exact cl_length _ | exact chd_length _ _ | (rw [cl_length]; omega) | (rw [chd_length]; omega)) (by omega)) ?_
                refine SW.q rfl (.inl rfl) rfl (by decide) (yq_loadC rfl fb60_Tk rfl (by first | exact Sees.root (by assumption) | exact Sees.own (by (try simp only [List.append_assoc, List.cons_append, List.nil_append, List.append_nil]); repeat (first | exact List.mem_cons_self | exact crentsBut_mem (by omega) (by omega) | exact crents_mem (by omega) | apply List.mem_cons_of_mem))) (by omega)) ?_
                refine SW.q rfl (.inl rfl) rfl (by decide) (yq_callf rfl known36_Tk (.cons rfl (.cons rfl .nil)) (fun w hw => (c_over hov.1 hov.2))) ?_
                refine SW.r rfl (.inl rfl) rfl (by decide) (yr_assign rfl rfl) ?_
                refine SW.done ?_
                refine VE.then_wp ?_
                refine V.seq ?_
                refine V.seq ?_
                refine V.region ?_
                refine VL.r (.inl rfl) rfl (by decide) (yr_move rfl rfl) ?_
                refine VL.r (.inl rfl) rfl (by decide) (yr_int rfl rfl rfl (.inl ⟨rfl, wrap_in (by omega)⟩)) ?_
                refine VL.r (.inl rfl) rfl (by decide) (yr_assign rfl rfl) ?_
                refine VL.nil ?_
                refine VE.then_wp ?_
                refine V.block ?_
                refine V.loopc (G := Nat × (List CP)) [(6, _), (7, _), (9, _), (10, _), (14, _), (15, _), (46, _), (47, _)] (fun ⟨cc, row⟩ => k + 1 ≤ cc ∧ cc ≤ bs.length ∧ row.length = bs.length ∧ (∀ j, j < bs.length → row.getD j (0, 0) = if j < cc then EF A (k + 1) r j else EF A k r j)) (fun ⟨cc, row⟩ => (⟨(f r).1, cl row, (f r).2 * 1, 60⟩ :: ⟨a45, cl (us), c45 * 1, 60⟩ :: ⟨ah, chd f (zss), ch * 1, 59⟩ :: (crentsBut 60 f zss r ++ []))) (fun ⟨cc, row⟩ => [(16, .int .i64 (cc : Int))]) (fun ⟨cc, row⟩ => bs.length - cc) (k + 1, zss.getD r []) (.cons rfl (.cons rfl (.cons rfl (.cons rfl (.cons rfl (.cons rfl (.cons rfl (.cons rfl .nil)))))))) (.cons (congrArg (fun i => some (Value.int .i64 i)) (by omega)) .nil) ?_ ?_ ?_
                · exact (fun w hw => hw)
                · exact (by exact ⟨Nat.le_refl _, by omega, hzr, fun j h2 => by rw [h8 r j hr1 h2, if_neg (Nat.lt_irrefl r)]; split; (rw [EF_out (by omega)]); rfl⟩)
                rintro ⟨cc, row⟩ ⟨hkc, hcn, hrow, hrw⟩
                show V _ _ _ (⟨(f r).1, cl row, (f r).2 * 1, 60⟩ :: ⟨a45, cl (us), c45 * 1, 60⟩ :: ⟨ah, chd f (zss), ch * 1, 59⟩ :: (crentsBut 60 f zss r ++ [])) ([(16, .int .i64 (cc : Int))] ++ [(6, _), (7, _), (9, _), (10, _), (14, _), (15, _), (46, _), (47, _)]) _ _
                refine V.seq ?_
                refine V.seq ?_
                refine V.region ?_
                refine VL.r (.inl rfl) rfl (by decide) (yr_move rfl rfl) ?_
                refine VL.r (.inl rfl) rfl (by decide) (yr_move rfl rfl) ?_
                refine VL.r (.inl rfl) rfl (by decide) (yr_icmp rfl (.inr (.inr (.inl rfl))) rfl rfl) ?_
                refine VL.nil ?_
                refine VE.then_wp ?_
                refine V.cond rfl (fun h13 => ?_) (fun h13 => ?_)
                · skip
                  replace h13 := ic_lss h13
                  have hc1 : cc < bs.length := by omega
                  have q4 : (zss.getD (k) []).getD (cc) (0, 0) = EF A k k cc := by rw [h8 k cc (by omega) (by omega), if_pos (show k < r by omega), EF_out (by omega)]
                  have hot : tOk (cO ((zss.getD (r) []).getD (k) (0, 0)) ((zss.getD (k) []).getD (k) (0, 0))) ((zss.getD (k) []).getD (cc) (0, 0)) := by rw [q1, q2, q4]; exact hS.elt k r cc (by omega) hr1 (by omega) hc1
                  refine V.skip ?_
                  refine VE.then_wp ?_
                  refine V.seq ?_
                  refine V.block ?_
                  refine V.draw [(0, 0), (1, 0), (2, 0), (3, 0), (4, 0), (5, 0), (6, 0), (7, 0), (8, 0), (9, 0), (10, 0), (11, 0), (12, 0), (13, 0), (14, 0), (15, 0), (16, 0), (17, 0), (18, 0), (19, 0), (20, 0), (21, 0), (22, 0), (23, 3)] mixed_Tk (by kernel_rfl) (by intro j o hj; simp at hj) ?_
                  refine SW.r rfl (.inl rfl) rfl (by decide) (yr_move rfl rfl) ?_
                  refine SW.r rfl (.inl rfl) rfl (by decide) (yr_move rfl rfl) ?_
                  refine SW.q rfl (.inl rfl) rfl (by decide) (yq_idx (k := r) rfl Try.underlying67 sz59_Tk rfl rfl (by first | exact Sees.root (by assumption) | exact Sees.own (by (try simp only [List.append_assoc, List.cons_append, List.nil_append, List.append_nil]); repeat (first | exact List.mem_cons_self | exact crentsBut_mem (by omega) (by omega) | exact crents_mem (by omega) | apply List.mem_cons_of_mem))) (by first | rfl | omega | (push_cast; rfl) | (push_cast; omega) | exact tmod_nat _ _) (by first | exact cl_length _ | exact chd_length _ _ | (rw [cl_length]; omega) | (rw [chd_length]; omega)) (by omega)) ?_
                  refine SW.q rfl (.inl rfl) rfl (by decide) (yq_loadCH rfl fb59_Tk rfl (by first | exact Sees.root (by assumption) | exact Sees.own (by (try simp only [List.append_assoc, List.cons_append, List.nil_append, List.append_nil]); repeat (first | exact List.mem_cons_self | exact crentsBut_mem (by omega) (by omega) | exact crents_mem (by omega) | apply List.mem_cons_of_mem))) (by omega)) ?_
                  refine SW.r rfl (.inl rfl) rfl (by decide) (yr_move rfl rfl) ?_
                  refine SW.r rfl (.inl rfl) rfl (by decide) (yr_move rfl rfl) ?_
                  refine SW.r rfl (.inl rfl) rfl (by decide) (yr_move rfl rfl) ?_
                  refine SW.q rfl (.inl rfl) rfl (by decide) (yq_idx (k := r) rfl Try.underlying67 sz59_Tk rfl rfl (by first | exact Sees.root (by assumption) | exact Sees.own (by (try simp only [List.append_assoc, List.cons_append, List.nil_append, List.append_nil]); repeat (first | exact List.mem_cons_self | exact crentsBut_mem (by omega) (by omega) | exact crents_mem (by omega) | apply List.mem_cons_of_mem))) (by first | rfl | omega | (push_cast; rfl) | (push_cast; omega) | exact tmod_nat _ _) (by first | exact cl_length _ | exact chd_length _ _ | (rw [cl_length]; omega) | (rw [chd_length]; omega)) (by omega)) ?_
                  refine SW.q rfl (.inl rfl) rfl (by decide) (yq_loadCH rfl fb59_Tk rfl (by first | exact Sees.root (by assumption) | exact Sees.own (by (try simp only [List.append_assoc, List.cons_append, List.nil_append, List.append_nil]); repeat (first | exact List.mem_cons_self | exact crentsBut_mem (by omega) (by omega) | exact crents_mem (by omega) | apply List.mem_cons_of_mem))) (by omega)) ?_
                  refine SW.r rfl (.inl rfl) rfl (by decide) (yr_move rfl rfl) ?_
                  refine SW.q rfl (.inl rfl) rfl (by decide) (yq_idx (k := cc) rfl Try.underlying59 sz60_Tk rfl rfl (by first | exact Sees.root (by assumption) | exact Sees.own (by (try simp only [List.append_assoc, List.cons_append, List.nil_append, List.append_nil]); repeat (first | exact List.mem_cons_self | exact crentsBut_mem (by omega) (by omega) | exact crents_mem (by omega) | apply List.mem_cons_of_mem))) (by first | rfl | omega | (push_cast; rfl) | (push_cast; omega) | exact tmod_nat _ _) (by first | exact cl_length _ | exact chd_length _ _ | (rw [cl_length]; omega) | (rw [chd_length]; omega)) (by omega)) ?_
                  refine SW.q rfl (.inl rfl) rfl (by decide) (yq_loadC rfl fb60_Tk rfl (by first | exact Sees.root (by assumption) | exact Sees.own (by (try simp only [List.append_assoc, List.cons_append, List.nil_append, List.append_nil]); repeat (first | exact List.mem_cons_self | exact crentsBut_mem (by omega) (by omega) | exact crents_mem (by omega) | apply List.mem_cons_of_mem))) (by omega)) ?_
                  refine SW.r rfl (.inl rfl) rfl (by decide) (yr_move rfl rfl) ?_
                  refine SW.r rfl (.inl rfl) rfl (by decide) (yr_move rfl rfl) ?_
                  refine SW.r rfl (.inl rfl) rfl (by decide) (yr_move rfl rfl) ?_
                  refine SW.q rfl (.inl rfl) rfl (by decide) (yq_idx (k := k) rfl Try.underlying67 sz59_Tk rfl rfl (by first | exact Sees.root (by assumption) | exact Sees.own (by (try simp only [List.append_assoc, List.cons_append, List.nil_append, List.append_nil]); repeat (first | exact List.mem_cons_self | exact crentsBut_mem (by omega) (by omega) | exact crents_mem (by omega) | apply List.mem_cons_of_mem))) (by first | rfl | omega | (push_cast; rfl) | (push_cast; omega) | exact tmod_nat _ _) (by first | exact cl_length _ | exact chd_length _ _ | (rw [cl_length]; omega) | (rw [chd_length]; omega)) (by omega)) ?_
                  refine SW.q rfl (.inl rfl) rfl (by decide) (yq_loadCH rfl fb59_Tk rfl (by first | exact Sees.root (by assumption) | exact Sees.own (by (try simp only [List.append_assoc, List.cons_append, List.nil_append, List.append_nil]); repeat (first | exact List.mem_cons_self | exact crentsBut_mem (by omega) (by omega) | exact crents_mem (by omega) | apply List.mem_cons_of_mem))) (by omega)) ?_
                  refine SW.r rfl (.inl rfl) rfl (by decide) (yr_move rfl rfl) ?_
                  refine SW.q rfl (.inl rfl) rfl (by decide) (yq_idx (k := cc) rfl Try.underlying59 sz60_Tk rfl rfl (by first | exact Sees.root (by assumption) | exact Sees.own (by (try simp only [List.append_assoc, List.cons_append, List.nil_append, List.append_nil]); repeat (first | exact List.mem_cons_self | exact crentsBut_mem (by omega) (by omega) | exact crents_mem (by omega) | apply List.mem_cons_of_mem))) (by first | rfl | omega | (push_cast; rfl) | (push_cast; omega) | exact tmod_nat _ _) (by first | exact cl_length _ | exact chd_length _ _ | (rw [cl_length]; omega) | (rw [chd_length]; omega)) (by omega)) ?_
                  refine SW.q rfl (.inl rfl) rfl (by decide) (yq_loadC rfl fb60_Tk rfl (by first | exact Sees.root (by assumption) | exact Sees.own (by (try simp only [List.append_assoc, List.cons_append, List.nil_append, List.append_nil]); repeat (first | exact List.mem_cons_self | exact crentsBut_mem (by omega) (by omega) | exact crents_mem (by omega) | apply List.mem_cons_of_mem))) (by omega)) ?_
                  refine SW.q rfl (.inl rfl) rfl (by decide) (yq_callf rfl known38_Tk (.cons rfl (.cons rfl .nil)) (fun w hw => (c_times hot.1 hot.2))) ?_
                  refine SW.q rfl (.inl rfl) rfl (by decide) (yq_callf rfl known37_Tk (.cons rfl (.cons rfl .nil)) (fun w hw => c_minus)) ?_
                  refine SW.q rfl (.inl rfl) rfl (by decide) (yq_idx (k := cc) rfl Try.underlying59 sz60_Tk rfl rfl (by first | exact Sees.root (by assumption) | exact Sees.own (by (try simp only [List.append_assoc, List.cons_append, List.nil_append, List.append_nil]); repeat (first | exact List.mem_cons_self | exact crentsBut_mem (by omega) (by omega) | exact crents_mem (by omega) | apply List.mem_cons_of_mem))) (by first | rfl | omega | (push_cast; rfl) | (push_cast; omega) | exact tmod_nat _ _) (by first | exact cl_length _ | exact chd_length _ _ | (rw [cl_length]; omega) | (rw [chd_length]; omega)) (by omega)) ?_
                  refine SW.s rfl (.inl rfl) rfl (yc_store rfl sz60_Tk rfl rfl (by repeat (first | exact UpdF.here | apply UpdF.there | apply UpdF.thereS)) (.inl ⟨rfl, rfl⟩) rfl (by rw [cl_length]; omega) (by decide) (cl_set _ _ _ _)) ?_
                  rintro ⟨⟩
                  refine SW.done ?_
                  refine VE.block_normal ?_
                  refine VE.then_wp ?_
                  refine V.region ?_
                  refine VL.r (.inl rfl) rfl (by decide) (yr_move rfl rfl) ?_
                  refine VL.r (.inl rfl) rfl (by decide) (yr_int rfl rfl rfl (.inl ⟨rfl, wrap_in (by omega)⟩)) ?_
                  refine VL.r (.inl rfl) rfl (by decide) (yr_assign rfl rfl) ?_
                  refine VL.nil ?_
                  refine VE.round (cc + 1, row.set cc (cM (row.getD cc (0, 0)) (cT (cO ((zss.getD (r) []).getD (k) (0, 0)) ((zss.getD (k) []).getD (k) (0, 0))) ((zss.getD (k) []).getD (cc) (0, 0))))) ?_ ?_ ?_ ?_ ?_
                  · exact (.cons (congrArg (fun i => some (Value.int .i64 i)) (by omega)) .nil)
                  · exact (.cons rfl (.cons rfl (.cons rfl (.cons rfl (.cons rfl (.cons rfl (.cons rfl (.cons rfl .nil))))))))
                  · exact (fun w hw => hw)
                  · refine ⟨by omega, by omega, by rw [List.length_set]; exact hrow, fun j h2 => ?_⟩
                    rw [csetD (by omega)]
                    by_cases e : j = cc
                    · subst e
                      rw [if_pos rfl, if_pos (Nat.lt_succ_self _), q1, q2, q4, hrw j h2, if_neg (Nat.lt_irrefl _), EF_in (by omega) (by omega)]
                    · rw [if_neg e, hrw j h2]
                      by_cases g : j < cc
                      · rw [if_pos g, if_pos (by omega)]
                      · rw [if_neg g, if_neg (by omega)]
                  · (try dsimp only); omega
                · skip
                  replace h13 := ic_lss' h13
                  refine V.exit ?_
                  refine VE.then_exit ?_
                  refine VE.then_exit ?_
                  refine VE.block_here ?_
                  refine VE.then_wp ?_
                  refine V.draw [(0, 0), (1, 0), (2, 0), (3, 0), (4, 0), (5, 0), (6, 0), (7, 0), (8, 0), (9, 0), (10, 0), (11, 0), (12, 0), (13, 0), (14, 3)] mixed_Tk (by kernel_rfl) (by intro j o hj; simp at hj) ?_
                  refine SW.r rfl (.inl rfl) rfl (by decide) (yr_move rfl rfl) ?_
                  refine SW.r rfl (.inl rfl) rfl (by decide) (yr_move rfl rfl) ?_
                  refine SW.r rfl (.inl rfl) rfl (by decide) (yr_move rfl rfl) ?_
                  refine SW.r rfl (.inl rfl) rfl (by decide) (yr_move rfl rfl) ?_
                  refine SW.q rfl (.inl rfl) rfl (by decide) (yq_idx (k := r) rfl Try.underlying59 sz60_Tk rfl rfl (by first | exact Sees.root (by assumption) | exact Sees.own (by (try simp only [List.append_assoc, List.cons_append, List.nil_append, List.append_nil]); repeat (first | exact List.mem_cons_self | exact crentsBut_mem (by omega) (by omega) | exact crents_mem (by omega) | apply List.mem_cons_of_mem))) (by first | rfl | omega | (push_cast; rfl) | (push_cast; omega) | exact tmod_nat _ _) (by first | exact cl_length _ | exact chd_length _ _ | (rw [cl_length]; omega) | (rw [chd_length]; omega)) (by omega)) ?_
                  refine SW.q rfl (.inl rfl) rfl (by decide) (yq_loadC rfl fb60_Tk rfl (by first | exact Sees.root (by assumption) | exact Sees.own (by (try simp only [List.append_assoc, List.cons_append, List.nil_append, List.append_nil]); repeat (first | exact List.mem_cons_self | exact crentsBut_mem (by omega) (by omega) | exact crents_mem (by omega) | apply List.mem_cons_of_mem))) (by omega)) ?_
                  refine SW.r rfl (.inl rfl) rfl (by decide) (yr_move rfl rfl) ?_
                  refine SW.r rfl (.inl rfl) rfl (by decide) (yr_move rfl rfl) ?_
                  refine SW.r rfl (.inl rfl) rfl (by decide) (yr_move rfl rfl) ?_
                  refine SW.q rfl (.inl rfl) rfl (by decide) (yq_idx (k := k) rfl Try.underlying59 sz60_Tk rfl rfl (by first | exact Sees.root (by assumption) | exact Sees.own (by (try simp only [List.append_assoc, List.cons_append, List.nil_append, List.append_nil]); repeat (first | exact List.mem_cons_self | exact crentsBut_mem (by omega) (by omega) | exact crents_mem (by omega) | apply List.mem_cons_of_mem))) (by first | rfl | omega | (push_cast; rfl) | (push_cast; omega) | exact tmod_nat _ _) (by first | exact cl_length _ | exact chd_length _ _ | (rw [cl_length]; omega) | (rw [chd_length]; omega)) (by omega)) ?_
                  refine SW.q rfl (.inl rfl) rfl (by decide) (yq_loadC rfl fb60_Tk rfl (by first | exact Sees.root (by assumption) | exact Sees.own (by (try simp only [List.append_assoc, List.cons_append, List.nil_append, List.append_nil]); repeat (first | exact List.mem_cons_self | exact crentsBut_mem (by omega) (by omega) | exact crents_mem (by omega) | apply List.mem_cons_of_mem))) (by omega)) ?_
                  refine SW.q rfl (.inl rfl) rfl (by decide) (yq_callf rfl known38_Tk (.cons rfl (.cons rfl .nil)) (fun w hw => (c_times hox.1 hox.2))) ?_
                  refine SW.q rfl (.inl rfl) rfl (by decide) (yq_callf rfl known37_Tk (.cons rfl (.cons rfl .nil)) (fun w hw => c_minus)) ?_
                  refine SW.q rfl (.inl rfl) rfl (by decide) (yq_idx (k := r) rfl Try.underlying59 sz60_Tk rfl rfl (by first | exact Sees.root (by assumption) | exact Sees.own (by (try simp only [List.append_assoc, List.cons_append, List.nil_append, List.append_nil]); repeat (first | exact List.mem_cons_self | exact crentsBut_mem (by omega) (by omega) | exact crents_mem (by omega) | apply List.mem_cons_of_mem))) (by first | rfl | omega | (push_cast; rfl) | (push_cast; omega) | exact tmod_nat _ _) (by first | exact cl_length _ | exact chd_length _ _ | (rw [cl_length]; omega) | (rw [chd_length]; omega)) (by omega)) ?_
                  refine SW.s rfl (.inl rfl) rfl (yc_store rfl sz60_Tk rfl rfl (by repeat (first | exact UpdF.here | apply UpdF.there | apply UpdF.thereS)) (.inl ⟨rfl, rfl⟩) rfl (by rw [cl_length]; omega) (by decide) (cl_set _ _ _ _)) ?_
                  rintro ⟨⟩
                  refine SW.done ?_
                  refine VE.block_normal ?_
                  refine VE.then_wp ?_
                  refine V.region ?_
                  refine VL.r (.inl rfl) rfl (by decide) (yr_move rfl rfl) ?_
                  refine VL.r (.inl rfl) rfl (by decide) (yr_int rfl rfl rfl (.inl ⟨rfl, wrap_in (by omega)⟩)) ?_
                  refine VL.r (.inl rfl) rfl (by decide) (yr_assign rfl rfl) ?_
                  refine VL.nil ?_
                  refine VE.round (r + 1, zss.set r row, us.set r (cM (us.getD r (0, 0)) (cT (cO ((zss.getD (r) []).getD (k) (0, 0)) ((zss.getD (k) []).getD (k) (0, 0))) (us.getD k (0, 0))))) ?_ ?_ ?_ ?_ ?_
                  · exact (.cons (congrArg (fun i => some (Value.int .i64 i)) (by omega)) .nil)
                  · exact (.cons rfl (.cons rfl (.cons rfl (.cons rfl (.cons rfl (.cons rfl .nil))))))
                  · exact (fun w hw => by
                      dsimp only
                      rw [chd_set (by omega) (by omega)]
                      refine Hp.crowIn (A := [_, _]) (T := []) (k := r) (by rw [List.length_set]; omega) ?_
                      rw [crentsBut_set, csetD (by omega), if_pos rfl]
                      exact hw)
                  · obtain rfl : cc = bs.length := by omega
                    refine ⟨by omega, by omega, hz1.set hr1 hrow, fun i j h1 h2 => ?_, by rw [List.length_set]; exact hu1, fun i h1 => ?_⟩
                    · rw [csetD (by omega)]
                      by_cases e : i = r
                      · subst e
                        rw [if_pos rfl, if_pos (Nat.lt_succ_self _), hrw j h2, if_pos h2]
                      · rw [if_neg e, h8 i j h1 h2]
                        by_cases g : i < r
                        · rw [if_pos g, if_pos (by omega)]
                        · rw [if_neg g, if_neg (by omega)]
                    · rw [csetD (by omega)]
                      by_cases e : i = r
                      · subst e
                        rw [if_pos rfl, if_pos (Nat.lt_succ_self _), q1, q2, q3, h9 i h1, if_neg (Nat.lt_irrefl _), XF_in (by omega)]
                      · rw [if_neg e, h9 i h1]
                        by_cases g : i < r
                        · rw [if_pos g, if_pos (by omega)]
                        · rw [if_neg g, if_neg (by omega)]
                  · (try dsimp only); omega
              · skip
                replace h12 := ic_lss' h12
                refine V.exit ?_
                refine VE.then_exit ?_
                refine VE.then_exit ?_
                refine VE.block_here ?_
                refine VE.block_normal ?_
                refine VE.then_wp ?_
                refine V.region ?_
                refine VL.r (.inl rfl) rfl (by decide) (yr_int rfl rfl rfl (.inl ⟨rfl, wrap_in (by omega)⟩)) ?_
                refine VL.r (.inl rfl) rfl (by decide) (yr_move rfl rfl) ?_
                refine VL.nil ?_
                refine VE.round (k + 1, zss, us) ?_ ?_ ?_ ?_ ?_
                · exact (.cons rfl .nil)
                · exact (.cons rfl (.cons rfl (.cons rfl (.cons rfl .nil))))
                · exact (fun w hw => hw)
                · obtain rfl : r = bs.length := by omega
                  exact ⟨by omega, hz1, fun i j h1 h2 => by rw [h8 i j h1 h2, if_pos h1], hu1, fun i h1 => by rw [h9 i h1, if_pos h1]⟩
                · (try dsimp only); omega
      · skip
        replace h3 := ic_lss' h3
        obtain rfl : k = bs.length := by omega
        refine V.exit ?_
        refine VE.then_exit ?_
        refine VE.then_exit ?_
        refine VE.block_here ?_
        refine VE.then_wp ?_
        refine V.seq ?_
        refine V.seq ?_
        refine V.region ?_
        refine VL.r (.inl rfl) rfl (by decide) (yr_move rfl rfl) ?_
        refine VL.r (.inl rfl) rfl (by decide) (yr_int rfl rfl rfl (.inr (.inl ⟨rfl, wrap_in (by omega)⟩))) ?_
        refine VL.r (.inl rfl) rfl (by decide) (yr_assign rfl rfl) ?_
        refine VL.nil ?_
        refine VE.then_wp ?_
        refine V.block ?_
        refine V.loopc (G := Nat × (List CP)) [(6, _), (7, _), (9, _)] (fun ⟨d1, vs⟩ => d1 ≤ bs.length ∧ vs.length = bs.length ∧ (∀ i, i < bs.length → vs.getD i (0, 0) = (BF bs.length (EF A bs.length) (XF A B bs.length) d1) i)) (fun ⟨d1, vs⟩ => (⟨a45, cl (vs), c45 * 1, 60⟩ :: ⟨ah, chd f (yss), ch * 1, 59⟩ :: (crents 60 f (yss) ++ []))) (fun ⟨d1, vs⟩ => [(17, .int .i64 ((bs.length : Int) - 1 - (d1 : Int)))]) (fun ⟨d1, vs⟩ => bs.length - d1) (0, xs) (.cons rfl (.cons rfl (.cons rfl .nil))) (.cons (congrArg (fun i => some (Value.int .i64 i)) (by omega)) .nil) ?_ ?_ ?_
        · exact (fun w hw => hw)
        · exact (by exact ⟨Nat.zero_le _, hx8, fun i h1 => by rw [BF_zero]; exact hx7 i h1⟩)
        rintro ⟨d1, vs⟩ ⟨hd1, hv1, hv2⟩
        show V _ _ _ (⟨a45, cl (vs), c45 * 1, 60⟩ :: ⟨ah, chd f (yss), ch * 1, 59⟩ :: (crents 60 f (yss) ++ [])) ([(17, .int .i64 ((bs.length : Int) - 1 - (d1 : Int)))] ++ [(6, _), (7, _), (9, _)]) _ _
        refine V.seq ?_
        refine V.seq ?_
        refine V.region ?_
        refine VL.r (.inl rfl) rfl (by decide) (yr_move rfl rfl) ?_
        refine VL.r (.inl rfl) rfl (by decide) (yr_icmp rfl (.inr (.inr (.inr (.inr (.inr rfl))))) rfl rfl) ?_
        refine VL.nil ?_
        refine VE.then_wp ?_
        refine V.cond rfl (fun h14 => ?_) (fun h14 => ?_)
        · skip
          replace h14 := ic_geq h14
          obtain ⟨t, ht⟩ : ∃ t, t + 1 + d1 = bs.length := ⟨bs.length - 1 - d1, by omega⟩
          have hyt := hsq.2 t (by omega)
          have hyl := hsq.1
          refine V.skip ?_
          refine VE.then_wp ?_
          refine V.seq ?_
          refine V.block ?_
          refine V.seq ?_
          refine V.seq ?_
          refine V.region ?_
          refine VL.r (.inl rfl) rfl (by decide) (yr_move rfl rfl) ?_
          refine VL.r (.inl rfl) rfl (by decide) (yr_int rfl rfl rfl (.inl ⟨rfl, wrap_in (by omega)⟩)) ?_
          refine VL.r (.inl rfl) rfl (by decide) (yr_assign rfl rfl) ?_
          refine VL.nil ?_
          refine VE.then_wp ?_
          refine V.block ?_
          refine V.loopc (G := Nat × (List CP)) [(6, _), (7, _), (9, _), (17, _)] (fun ⟨e, ws⟩ => e ≤ d1 ∧ ws.length = bs.length ∧ (∀ i, i < bs.length → ws.getD i (0, 0) = if i = t then BS (EF A bs.length) (BF bs.length (EF A bs.length) (XF A B bs.length) d1) t e else (BF bs.length (EF A bs.length) (XF A B bs.length) d1) i)) (fun ⟨e, ws⟩ => (⟨a45, cl (ws), c45 * 1, 60⟩ :: ⟨ah, chd f (yss), ch * 1, 59⟩ :: (crents 60 f (yss) ++ []))) (fun ⟨e, ws⟩ => [(18, .int .i64 ((t + 1 + e : Nat) : Int))]) (fun ⟨e, ws⟩ => d1 - e) (0, vs) (.cons rfl (.cons rfl (.cons rfl (.cons rfl .nil)))) (.cons (congrArg (fun i => some (Value.int .i64 i)) (by omega)) .nil) ?_ ?_ ?_
          · exact (fun w hw => hw)
          · exact (by exact ⟨Nat.zero_le _, hv1, fun i h1 => by rw [hv2 i h1]; split; (rename_i e; subst e; rw [BS_zero]); rfl⟩)
          rintro ⟨e, ws⟩ ⟨he9, hw1, h6⟩
          show V _ _ _ (⟨a45, cl (ws), c45 * 1, 60⟩ :: ⟨ah, chd f (yss), ch * 1, 59⟩ :: (crents 60 f (yss) ++ [])) ([(18, .int .i64 ((t + 1 + e : Nat) : Int))] ++ [(6, _), (7, _), (9, _), (17, _)]) _ _
          refine V.seq ?_
          refine V.seq ?_
          refine V.region ?_
          refine VL.r (.inl rfl) rfl (by decide) (yr_move rfl rfl) ?_
          refine VL.r (.inl rfl) rfl (by decide) (yr_move rfl rfl) ?_
          refine VL.r (.inl rfl) rfl (by decide) (yr_icmp rfl (.inr (.inr (.inl rfl))) rfl rfl) ?_
          refine VL.nil ?_
          refine VE.then_wp ?_
          refine V.cond rfl (fun h15 => ?_) (fun h15 => ?_)
          · skip
            replace h15 := ic_lss h15
            have he1 : e < d1 := by omega
            have hob : tOk ((yss.getD (t) []).getD (t + 1 + e) (0, 0)) (ws.getD (t + 1 + e) (0, 0)) := by rw [h7 t (t + 1 + e) (by omega) (by omega), h6 (t + 1 + e) (by omega), if_neg (by omega)]; exact hS.bkt t d1 e ht he1
            refine V.skip ?_
            refine VE.then_wp ?_
            refine V.seq ?_
            refine V.block ?_
            refine V.draw [(0, 0), (1, 0), (2, 0), (3, 0), (4, 0), (5, 0), (6, 0), (7, 0), (8, 0), (9, 0), (10, 0), (11, 0), (12, 0), (13, 0), (14, 0), (15, 0), (16, 0), (17, 0), (18, 0), (19, 0), (20, 3)] mixed_Tk (by kernel_rfl) (by intro j o hj; simp at hj) ?_
            refine SW.r rfl (.inl rfl) rfl (by decide) (yr_move rfl rfl) ?_
            refine SW.r rfl (.inl rfl) rfl (by decide) (yr_move rfl rfl) ?_
            refine SW.r rfl (.inl rfl) rfl (by decide) (yr_move rfl rfl) ?_
            refine SW.r rfl (.inl rfl) rfl (by decide) (yr_move rfl rfl) ?_
            refine SW.q rfl (.inl rfl) rfl (by decide) (yq_idx (k := t) rfl Try.underlying59 sz60_Tk rfl rfl (by first | exact Sees.root (by assumption) | exact Sees.own (by (try simp only [List.append_assoc, List.cons_append, List.nil_append, List.append_nil]); repeat (first | exact List.mem_cons_self | exact crentsBut_mem (by omega) (by omega) | exact crents_mem (by omega) | apply List.mem_cons_of_mem))) (by first | rfl | omega | (push_cast; rfl) | (push_cast; omega) | exact tmod_nat _ _) (by first | exact cl_length _ | exact chd_length _ _ | (rw [cl_length]; omega) | (rw [chd_length]; omega)) (by omega)) ?_
            refine SW.q rfl (.inl rfl) rfl (by decide) (yq_loadC rfl fb60_Tk rfl (by first | exact Sees.root (by assumption) | exact Sees.own (by (try simp only [List.append_assoc, List.cons_append, List.nil_append, List.append_nil]); repeat (first | exact List.mem_cons_self | exact crentsBut_mem (by omega) (by omega) | exact crents_mem (by omega) | apply List.mem_cons_of_mem))) (by omega)) ?_
            refine SW.r rfl (.inl rfl) rfl (by decide) (yr_move rfl rfl) ?_
            refine SW.r rfl (.inl rfl) rfl (by decide) (yr_move rfl rfl) ?_
            refine SW.q rfl (.inl rfl) rfl (by decide) (yq_idx (k := t) rfl Try.underlying67 sz59_Tk rfl rfl (by first | exact Sees.root (by assumption) | exact Sees.own (by (try simp only [List.append_assoc, List.cons_append, List.nil_append, List.append_nil]); repeat (first | exact List.mem_cons_self | exact crentsBut_mem (by omega) (by omega) | exact crents_mem (by omega) | apply List.mem_cons_of_mem))) (by first | rfl | omega | (push_cast; rfl) | (push_cast; omega) | exact tmod_nat _ _) (by first | exact cl_length _ | exact chd_length _ _ | (rw [cl_length]; omega) | (rw [chd_length]; omega)) (by omega)) ?_
            refine SW.q rfl (.inl rfl) rfl (by decide) (yq_loadCH rfl fb59_Tk rfl (by first | exact Sees.root (by assumption) | exact Sees.own (by (try simp only [List.append_assoc, List.cons_append, List.nil_append, List.append_nil]); repeat (first | exact List.mem_cons_self | exact crentsBut_mem (by omega) (by omega) | exact crents_mem (by omega) | apply List.mem_cons_of_mem))) (by omega)) ?_
            refine SW.r rfl (.inl rfl) rfl (by decide) (yr_move rfl rfl) ?_
            refine SW.q rfl (.inl rfl) rfl (by decide) (yq_idx (k := (t + 1 + e)) rfl Try.underlying59 sz60_Tk rfl rfl (by first | exact Sees.root (by assumption) | exact Sees.own (by (try simp only [List.append_assoc, List.cons_append, List.nil_append, List.append_nil]); repeat (first | exact List.mem_cons_self | exact crentsBut_mem (by omega) (by omega) | exact crents_mem (by omega) | apply List.mem_cons_of_mem))) (by first | rfl | omega | (push_cast; rfl) | (push_cast; omega) | exact tmod_nat _ _) (by first | exact cl_length _ | exact chd_length _ _ | (rw [cl_length]; omega) | (rw [chd_length]; omega)) (by omega)) ?_
            refine SW.q rfl (.inl rfl) rfl (by decide) (yq_loadC rfl fb60_Tk rfl (by first | exact Sees.root (by assumption) | exact Sees.own (by (try simp only [List.append_assoc, List.cons_append, List.nil_append, List.append_nil]); repeat (first | exact List.mem_cons_self | exact crentsBut_mem (by omega) (by omega) | exact crents_mem (by omega) | apply List.mem_cons_of_mem))) (by omega)) ?_
            refine SW.r rfl (.inl rfl) rfl (by decide) (yr_move rfl rfl) ?_
            refine SW.r rfl (.inl rfl) rfl (by decide) (yr_move rfl rfl) ?_
            refine SW.q rfl (.inl rfl) rfl (by decide) (yq_idx (k := (t + 1 + e)) rfl Try.underlying59 sz60_Tk rfl rfl (by first | exact Sees.root (by assumption) | exact Sees.own (by (try simp only [List.append_assoc, List.cons_append, List.nil_append, List.append_nil]); repeat (first | exact List.mem_cons_self | exact crentsBut_mem (by omega) (by omega) | exact crents_mem (by omega) | apply List.mem_cons_of_mem))) (by first | rfl | omega | (push_cast; rfl) | (push_cast; omega) | exact tmod_nat _ _) (by first | exact cl_length _ | exact chd_length _ _ | (rw [cl_length]; omega) | (rw [chd_length]; omega)) (by omega)) ?_
            refine SW.q rfl (.inl rfl) rfl (by decide) (yq_loadC rfl fb60_Tk rfl (by first | exact Sees.root (by assumption) | exact Sees.own (by (try simp only [List.append_assoc, List.cons_append, List.nil_append, List.append_nil]); repeat (first | exact List.mem_cons_self | exact crentsBut_mem (by omega) (by omega) | exact crents_mem (by omega) | apply List.mem_cons_of_mem))) (by omega)) ?_
            refine SW.q rfl (.inl rfl) rfl (by decide) (yq_callf rfl known38_Tk (.cons rfl (.cons rfl .nil)) (fun w hw => (c_times hob.1 hob.2))) ?_
            refine SW.q rfl (.inl rfl) rfl (by decide) (yq_callf rfl known37_Tk (.cons rfl (.cons rfl .nil)) (fun w hw => c_minus)) ?_
            refine SW.q rfl (.inl rfl) rfl (by decide) (yq_idx (k := t) rfl Try.underlying59 sz60_Tk rfl rfl (by first | exact Sees.root (by assumption) | exact Sees.own (by (try simp only [List.append_assoc, List.cons_append, List.nil_append, List.append_nil]); repeat (first | exact List.mem_cons_self | exact crentsBut_mem (by omega) (by omega) | exact crents_mem (by omega) | apply List.mem_cons_of_mem))) (by first | rfl | omega | (push_cast; rfl) | (push_cast; omega) | exact tmod_nat _ _) (by first | exact cl_length _ | exact chd_length _ _ | (rw [cl_length]; omega) | (rw [chd_length]; omega)) (by omega)) ?_
            refine SW.s rfl (.inl rfl) rfl (yc_store rfl sz60_Tk rfl rfl (by repeat (first | exact UpdF.here | apply UpdF.there | apply UpdF.thereS)) (.inl ⟨rfl, rfl⟩) rfl (by rw [cl_length]; omega) (by decide) (cl_set _ _ _ _)) ?_
            rintro ⟨⟩
            refine SW.done ?_
            refine VE.block_normal ?_
            refine VE.then_wp ?_
            refine V.region ?_
            refine VL.r (.inl rfl) rfl (by decide) (yr_move rfl rfl) ?_
            refine VL.r (.inl rfl) rfl (by decide) (yr_int rfl rfl rfl (.inl ⟨rfl, wrap_in (by omega)⟩)) ?_
            refine VL.r (.inl rfl) rfl (by decide) (yr_assign rfl rfl) ?_
            refine VL.nil ?_
            refine VE.round (e + 1, ws.set t (cM (ws.getD t (0, 0)) (cT ((yss.getD (t) []).getD (t + 1 + e) (0, 0)) (ws.getD (t + 1 + e) (0, 0))))) ?_ ?_ ?_ ?_ ?_
            · exact (.cons (congrArg (fun i => some (Value.int .i64 i)) (by omega)) .nil)
            · exact (.cons rfl (.cons rfl (.cons rfl (.cons rfl .nil))))
            · exact (fun w hw => hw)
            · refine ⟨by omega, by rw [List.length_set]; exact hw1, fun i h1 => ?_⟩
              rw [csetD (by omega)]
              by_cases g : i = t
              · subst g
                rw [if_pos rfl, if_pos rfl, BS_succ, h6 i h1, if_pos rfl, h7 i (i + 1 + e) h1 (by omega), h6 (i + 1 + e) (by omega), if_neg (by omega)]
              · rw [if_neg g, if_neg g, h6 i h1, if_neg g]
            · (try dsimp only); omega
          · skip
            replace h15 := ic_lss' h15
            obtain rfl : e = d1 := by omega
            have hoz : oOk (ws.getD t (0, 0)) ((yss.getD (t) []).getD (t) (0, 0)) := by rw [h7 t t (by omega) (by omega), h6 t (by omega), if_pos rfl]; exact hS.bko t e ht
            refine V.exit ?_
            refine VE.then_exit ?_
            refine VE.then_exit ?_
            refine VE.block_here ?_
            refine VE.then_wp ?_
            refine V.draw [(0, 0), (1, 0), (2, 0), (3, 0), (4, 0), (5, 0), (6, 0), (7, 0), (8, 0), (9, 0), (10, 0), (11, 0), (12, 0), (13, 0), (14, 0), (15, 3)] mixed_Tk (by kernel_rfl) (by intro j o hj; simp at hj) ?_
            refine SW.r rfl (.inl rfl) rfl (by decide) (yr_move rfl rfl) ?_
            refine SW.r rfl (.inl rfl) rfl (by decide) (yr_move rfl rfl) ?_
            refine SW.r rfl (.inl rfl) rfl (by decide) (yr_move rfl rfl) ?_
            refine SW.r rfl (.inl rfl) rfl (by decide) (yr_move rfl rfl) ?_
            refine SW.q rfl (.inl rfl) rfl (by decide) (yq_idx (k := t) rfl Try.underlying59 sz60_Tk rfl rfl (by first | exact Sees.root (by assumption) | exact Sees.own (by (try simp only [List.append_assoc, List.cons_append, List.nil_append, List.append_nil]); repeat (first | exact List.mem_cons_self | exact crentsBut_mem (by omega) (by omega) | exact crents_mem (by omega) | apply List.mem_cons_of_mem))) (by first | rfl | omega | (push_cast; rfl) | (push_cast; omega) | exact tmod_nat _ _) (by first | exact cl_length _ | exact chd_length _ _ | (rw [cl_length]; omega) | (rw [chd_length]; omega)) (by omega)) ?_
            refine SW.q rfl (.inl rfl) rfl (by decide) (yq_loadC rfl fb60_Tk rfl (by first | exact Sees.root (by assumption) | exact Sees.own (by (try simp only [List.append_assoc, List.cons_append, List.nil_append, List.append_nil]); repeat (first | exact List.mem_cons_self | exact crentsBut_mem (by omega) (by omega) | exact crents_mem (by omega) | apply List.mem_cons_of_mem))) (by omega)) ?_
            refine SW.r rfl (.inl rfl) rfl (by decide) (yr_move rfl rfl) ?_
            refine SW.r rfl (.inl rfl) rfl (by decide) (yr_move rfl rfl) ?_
            refine SW.q rfl (.inl rfl) rfl (by decide) (yq_idx (k := t) rfl Try.underlying67 sz59_Tk rfl rfl (by first | exact Sees.root (by assumption) | exact Sees.own (by (try simp only [List.append_assoc, List.cons_append, List.nil_append, List.append_nil]); repeat (first | exact List.mem_cons_self | exact crentsBut_mem (by omega) (by omega) | exact crents_mem (by omega) | apply List.mem_cons_of_mem))) (by first | rfl | omega | (push_cast; rfl) | (push_cast; omega) | exact tmod_nat _ _) (by first | exact cl_length _ | exact chd_length _ _ | (rw [cl_length]; omega) | (rw [chd_length]; omega)) (by omega)) ?_
            refine SW.q rfl (.inl rfl) rfl (by decide) (yq_loadCH rfl fb59_Tk rfl (by first | exact Sees.root (by assumption) | exact Sees.own (by (try simp only [List.append_assoc, List.cons_append, List.nil_append, List.append_nil]); repeat (first | exact List.mem_cons_self | exact crentsBut_mem (by omega) (by omega) | exact crents_mem (by omega) | apply List.mem_cons_of_mem))) (by omega)) ?_
            refine SW.r rfl (.inl rfl) rfl (by decide) (yr_move rfl rfl) ?_
            refine SW.q rfl (.inl rfl) rfl (by decide) (yq_idx (k := t) rfl Try.underlying59 sz60_Tk rfl rfl (by first | exact Sees.root (by assumption) | exact Sees.own (by (try simp only [List.append_assoc, List.cons_append, List.nil_append, List.append_nil]); repeat (first | exact List.mem_cons_self | exact crentsBut_mem (by omega) (by omega) | exact crents_mem (by omega) | apply List.mem_cons_of_mem))) (by first | rfl | omega | (push_cast; rfl) | (push_cast; omega) | exact tmod_nat _ _) (by first | exact cl_length _ | exact chd_length _ _ | (rw [cl_length]; omega) | (rw [chd_length]; omega)) (by omega)) ?_
            refine SW.q rfl (.inl rfl) rfl (by decide) (yq_loadC rfl fb60_Tk rfl (by first | exact Sees.root (by assumption) | exact Sees.own (by (try simp only [List.append_assoc, List.cons_append, List.nil_append, List.append_nil]); repeat (first | exact List.mem_cons_self | exact crentsBut_mem (by omega) (by omega) | exact crents_mem (by omega) | apply List.mem_cons_of_mem))) (by omega)) ?_
            refine SW.q rfl (.inl rfl) rfl (by decide) (yq_callf rfl known36_Tk (.cons rfl (.cons rfl .nil)) (fun w hw => (c_over hoz.1 hoz.2))) ?_
            refine SW.q rfl (.inl rfl) rfl (by decide) (yq_idx (k := t) rfl Try.underlying59 sz60_Tk rfl rfl (by first | exact Sees.root (by assumption) | exact Sees.own (by (try simp only [List.append_assoc, List.cons_append, List.nil_append, List.append_nil]); repeat (first | exact List.mem_cons_self | exact crentsBut_mem (by omega) (by omega) | exact crents_mem (by omega) | apply List.mem_cons_of_mem))) (by first | rfl | omega | (push_cast; rfl) | (push_cast; omega) | exact tmod_nat _ _) (by first | exact cl_length _ | exact chd_length _ _ | (rw [cl_length]; omega) | (rw [chd_length]; omega)) (by omega)) ?_
            refine SW.s rfl (.inl rfl) rfl (yc_store rfl sz60_Tk rfl rfl (by repeat (first | exact UpdF.here | apply UpdF.there | apply UpdF.thereS)) (.inl ⟨rfl, rfl⟩) rfl (by rw [cl_length]; omega) (by decide) (cl_set _ _ _ _)) ?_
            rintro ⟨⟩
            refine SW.done ?_
            refine VE.block_normal ?_
            refine VE.then_wp ?_
            refine V.region ?_
            refine VL.r (.inl rfl) rfl (by decide) (yr_move rfl rfl) ?_
            refine VL.r (.inl rfl) rfl (by decide) (yr_int rfl rfl rfl (.inr (.inl ⟨rfl, wrap_in (by omega)⟩))) ?_
            refine VL.r (.inl rfl) rfl (by decide) (yr_assign rfl rfl) ?_
            refine VL.nil ?_
            refine VE.round (e + 1, ws.set t (cO (ws.getD t (0, 0)) ((yss.getD (t) []).getD (t) (0, 0)))) ?_ ?_ ?_ ?_ ?_
            · exact (.cons (congrArg (fun i => some (Value.int .i64 i)) (by omega)) .nil)
            · exact (.cons rfl (.cons rfl (.cons rfl .nil)))
            · exact (fun w hw => hw)
            · refine ⟨by omega, by rw [List.length_set]; exact hw1, fun i h1 => ?_⟩
              rw [csetD (by omega)]
              by_cases g : i = t
              · subst g
                rw [if_pos rfl, BF_here ht, h6 i h1, if_pos rfl, h7 i i h1 h1]
              · rw [if_neg g, BF_else (by omega), h6 i h1, if_neg g]
            · (try dsimp only); omega
        · skip
          replace h14 := ic_geq' h14
          refine V.exit ?_
          refine VE.then_exit ?_
          refine VE.then_exit ?_
          refine VE.block_here ?_
          refine VE.then_wp ?_
          refine V.seq ?_
          refine V.region ?_
          refine VL.r (.inl rfl) rfl (by decide) (yr_move rfl rfl) ?_
          refine VL.r (.inl rfl) rfl (by decide) (yr_assign rfl rfl) ?_
          refine VL.r (.inl rfl) rfl (by decide) (yr_assign (u := .bool true) rfl rfl) ?_
          refine VL.nil ?_
          refine VE.then_wp ?_
          refine V.ret ?_
          refine ret2 rfl rfl rfl (by nofun) (by nofun) (fun w1 hw => ?_)
          obtain rfl : d1 = bs.length := by omega
          have hs9 := solC_is hv1 hv2
          subst hs9
          exact ⟨(a45, c45), rfl, (hw.pick (by apply Pick.cons1; (· repeat (first | exact Rem.here | exact Rem.all | exact Rem.hereS | apply Rem.there | apply Rem.thereS)); exact Pick.nil)).outs (List.Sublist.refl _)⟩

end Go.Proofs.Ytpoigbpaeniikaa


namespace Go.Proofs.Ytpoigbpaeniikaa
open Go.RowKit

section
variable {sq : List Nat → Nat} {s : List Nat}
end
section
variable {xss : List (List Nat)} {ws gs : List Nat} {size : Nat} {rn : Int}
end

end Go.Proofs.Ytpoigbpaeniikaa


namespace Go.Proofs.Ytpoigbpaeniikaa
open Go.RowKit

def fD (i : Nat) (f : Nat → Option Addr × Nat) : Nat → Option Addr × Nat := fun k => if k < i then f k else f (k + 1)
theorem getD_erase {α : Type} {xs : List α} {i k : Nat} {d : α} : (xs.eraseIdx i).getD k d = if k < i then xs.getD k d else xs.getD (k + 1) d := by
  simp only [List.getD, List.getElem?_eraseIdx]
  split <;> rfl
theorem Rws.erase {w : World} {f : Nat → Option Addr × Nat} {xss : List (List Nat)} (i : Nat) (h : Rws w f xss) : Rws w (fD i f) (xss.eraseIdx i) := by
  intro k hk
  rw [List.length_eraseIdx] at hk
  rw [getD_erase]
  unfold fD
  by_cases hi : k < i
  · rw [if_pos hi, if_pos hi]; exact h k (by split at hk <;> omega)
  · rw [if_neg hi, if_neg hi]; exact h (k + 1) (by split at hk <;> omega)
/-- What is known is less. -/
theorem Ent.at.less {B : Nat} {w : World} {a : Option Addr} {us vs : List Value} {cap : Nat} {ty : TypeId} (h : Ent.at B w ⟨a, us, cap, ty⟩) (hl : vs.length ≤ us.length) (hv : ∀ (j : Nat) u, vs[j]? = some u → us[j]? = some u) : Ent.at B w ⟨a, vs, cap, ty⟩ := by
  rcases h with h | ⟨b, c, h1, h2, h3, h4, h5, h6⟩
  · refine .inl ⟨List.eq_nil_of_length_eq_zero ?_, h.2⟩
    have := h.1
    simp only at this
    subst this
    simpa using hl
  · exact .inr ⟨b, c, h1, h2, h3, h4, Nat.le_trans hl h5, fun j u hj => h6 j u (hv j u hj)⟩
theorem Hp.less {w0 w : World} {F : List Ent} {a : Option Addr} {us vs : List Value} {cap : Nat} {ty : TypeId} (hw : Hp w0 (F ++ [⟨a, us, cap, ty⟩]) w) (hl : vs.length ≤ us.length) (hv : ∀ (j : Nat) u, vs[j]? = some u → us[j]? = some u) : Hp w0 (F ++ [⟨a, vs, cap, ty⟩]) w := by
  have hm := hw.mid
  rw [List.append_nil] at hm
  obtain ⟨h1, h2, h3, h4⟩ := hm
  exact Hp.of_mid hw.below (by rw [List.append_nil]; exact h1) (h2.less hl hv) (by rw [List.append_nil]; exact h3) (by rw [List.append_nil]; exact h4)

noncomputable def dropOk (xss : List (List Nat)) (ws gs : List Nat) (j : Int) : Bool := validD xss ws gs && decide (0 ≤ j ∧ j ≤ (xss.length : Int) - 1) && validD (xss.eraseIdx j.toNat) (ws.eraseIdx j.toNat) (gs.eraseIdx j.toNat)
section
variable {xss : List (List Nat)} {ws gs : List Nat} {j : Int}
noncomputable def dropX (xss : List (List Nat)) (ws gs : List Nat) (j : Int) : List (List Nat) := if dropOk xss ws gs j then xss.eraseIdx j.toNat else []
noncomputable def dropW (xss : List (List Nat)) (ws gs : List Nat) (j : Int) : List Nat := if dropOk xss ws gs j then ws.eraseIdx j.toNat else []
noncomputable def dropG (xss : List (List Nat)) (ws gs : List Nat) (j : Int) : List Nat := if dropOk xss ws gs j then gs.eraseIdx j.toNat else []
end
end Go.Proofs.Ytpoigbpaeniikaa


namespace Go.Proofs.Ytpoigbpaeniikaa
open Go.RowKit

def w2w (k : Nat) : Nat := fop .quo .f32 (FloatKind.f32.nearest ((k : Int) - 8)) 1073741824
def g2w (k : Nat) : Nat := fop .quo .f32 (FloatKind.f32.nearest (1 + (k : Int))) 1073741824
def H9 (y : Nat) : Prop := ∃ k : Nat, k < 9 ∧ y = hqw k
def W17 (y : Nat) : Prop := ∃ k : Nat, k < 17 ∧ y = w2w k
def G4 (y : Nat) : Prop := ∃ k : Nat, k < 4 ∧ y = g2w k
def Q17 (y : Nat) : Prop := ∃ k : Nat, k < 17 ∧ y = qw k
/-! ### tables -/
def dyb (x : Nat) (v : Int) : Bool := decide (x < 2 ^ FloatKind.f32.format.width) && decide (rng FloatKind.f32.format x < FloatKind.f32.format.infRung) && decide (sval FloatKind.f32.format x = v * 2 ^ dyU .f32)
theorem dyb_is {x : Nat} {v : Int} (h : dyb x v = true) : dy .f32 x v := by
  unfold dyb at h
  simp only [Bool.and_eq_true, decide_eq_true_eq] at h
  exact ⟨h.1.1, h.1.2, h.2⟩
theorem tW : ∀ k : Fin 17, (dyb (w2w k) (64 * ((k.val : Int) - 8)) && fin (w2w k)) = true := by decide +kernel
theorem tG : ∀ k : Fin 4, (dyb (g2w k) (64 * ((k.val : Int) + 1)) && least (g2w k)) = true := by decide +kernel
theorem tQ : ∀ k : Fin 17, (dyb (qw k) (32 * ((k.val : Int) - 8)) && fin (qw k) && fin (fop .quo .f32 (qw k) 1073741824)) = true := by decide +kernel
theorem tS : ∀ r : Fin 9, ∀ s : Fin 17, (fop .mul .f32 (fop .mul .f32 (hqw r) 1073741824) (fop .quo .f32 (qw s) 1073741824) == fop .mul .f32 (hqw r) (qw s)) = true := by decide +kernel
theorem hW {y : Nat} (h : W17 y) : ∃ v : Int, v.natAbs ≤ 8 ∧ dy .f32 y (64 * v) ∧ fin y = true := by
  obtain ⟨k, hk, rfl⟩ := h
  have := tW ⟨k, hk⟩
  simp only [Bool.and_eq_true] at this
  exact ⟨(k : Int) - 8, by omega, dyb_is this.1, this.2⟩
theorem hG {y : Nat} (h : G4 y) : ∃ v : Nat, v ≤ 4 ∧ dy .f32 y (64 * (v : Int)) ∧ least y = true := by
  obtain ⟨k, hk, rfl⟩ := h
  have := tG ⟨k, hk⟩
  simp only [Bool.and_eq_true] at this
  exact ⟨k + 1, by omega, dyb_is this.1, this.2⟩
theorem hQ {y : Nat} (h : Q17 y) : ∃ v : Int, v.natAbs ≤ 8 ∧ dy .f32 y (32 * v) ∧ fin y = true ∧ fin (fop .quo .f32 y 1073741824) = true := by
  obtain ⟨k, hk, rfl⟩ := h
  have := tQ ⟨k, hk⟩
  simp only [Bool.and_eq_true] at this
  exact ⟨(k : Int) - 8, by omega, dyb_is this.1.1, this.1.2, this.2⟩
theorem hS {a q : Nat} (h : H9 a) (h2 : Q17 q) : fop .mul .f32 (fop .mul .f32 a 1073741824) (fop .quo .f32 q 1073741824) = fop .mul .f32 a q := by
  obtain ⟨r, hr, rfl⟩ := h
  obtain ⟨s, hs, rfl⟩ := h2
  exact beq_iff_eq.1 (tS ⟨r, hr⟩ ⟨s, hs⟩)
theorem dy_z {k : FloatKind} : dy k 0 0 := by
  refine ⟨by cases k <;> decide, by cases k <;> decide, ?_⟩
  rw [Int.zero_mul]; cases k <;> decide
/-! ### what is missed -/
section
variable {xs x ws gs : List Nat} {xss : List (List Nat)} {n m i : Nat}
/-- A design of halves. -/
structure DDok (xss : List (List Nat)) (ws gs : List Nat) (n : Nat) : Prop where
  m1 : 1 ≤ xss.length
  m2 : xss.length ≤ 10
  n1 : 1 ≤ n
  n2 : n ≤ 3
  rows : ∀ xs ∈ xss, xs.length = n ∧ ∀ y ∈ xs, H9 y
  wl : ws.length = xss.length
  gl : gs.length = xss.length
  hw : ∀ y ∈ ws, W17 y
  hg : ∀ y ∈ gs, G4 y
/-! ### what is valid -/
theorem mem_app {α : Type} {p : α → Prop} {l r : List α} (h1 : ∀ y ∈ l, p y) (h2 : ∀ y ∈ r, p y) : ∀ y ∈ l ++ r, p y := fun y hy => by
  rcases List.mem_append.1 hy with h | h
  · exact h1 y h
  · exact h2 y h
theorem mem_one {α : Type} {p : α → Prop} {a : α} (h : p a) : ∀ y ∈ [a], p y := fun y hy => by rw [List.mem_singleton.1 hy]; exact h
end
/-- All that the law asks of a drawn design, and of currents. -/
structure RtF (xss : List (List Nat)) (ws gs x : List Nat) (S : Nat) : Prop where
  hS : S ≤ 655360
  hX : Cans xss
  hXw : ∀ y ∈ ws, Can .f32 y
  hXg : ∀ y ∈ gs, Can .f32 y
  hadd : mergeOk xss [x] ws gs [1073741824] [1065353216] = true
  hdrop : dropOk (xss ++ [x]) (ws ++ [1073741824]) (gs ++ [1065353216]) (xss.length : Int) = true
  hdX : dropX (xss ++ [x]) (ws ++ [1073741824]) (gs ++ [1065353216]) (xss.length : Int) = xss
  hdW : dropW (xss ++ [x]) (ws ++ [1073741824]) (gs ++ [1065353216]) (xss.length : Int) = ws
  hdG : dropG (xss ++ [x]) (ws ++ [1073741824]) (gs ++ [1065353216]) (xss.length : Int) = gs
  htwo : mergeOk xss xss ws gs ws gs = true
  fit1 : fitsD xss ws gs x = true
  fit2 : fitsD (xss ++ xss) (ws ++ ws) (gs ++ gs) x = true
  dy1 : dy .f32 (squareD xss ws gs x) (S : Int)
  dy2 : dy .f32 (squareD (xss ++ xss) (ws ++ ws) (gs ++ gs) x) (2 * S : Int)
/-- A drawn design, and where it lies. -/
structure DX where
  p : ((Option Addr × Nat) × (Nat → Option Addr × Nat)) × (Option Addr × Nat) × (Option Addr × Nat)
  xss : List (List Nat)
  ws : List Nat
  gs : List Nat
  n : Nat
  at' : Nat
  sd : Nat
def DX.v (x : DX) : Value := .agg #[.slice x.p.1.1.1 x.xss.length x.p.1.1.2, .slice x.p.2.1.1 x.ws.length x.p.2.1.2, .slice x.p.2.2.1 x.gs.length x.p.2.2.2]
end Go.Proofs.Ytpoigbpaeniikaa


namespace Go.Proofs.Ytpoigbpaeniikaa
open Go.RowKit
set_option linter.unusedVariables false
set_option linter.unusedSimpArgs false
set_option maxRecDepth 20000

theorem known14_Dd : Known Try.prog 14 := Known.mk' Try.func14 (by kernel_rfl)
theorem elt34_Dd : Elt Try.prog 34 [Value.float .f32 0] 4 := Elt.mk' (by kernel_rfl) (by decide)
theorem known16_Dd : Known Try.prog 16 := Known.mk' Try.func16 (by kernel_rfl)
theorem sz5_Dd : (Try.prog.info? 5).map (·.size) = some 1 := by kernel_rfl
theorem fb5_Dd : flatB Try.prog 5 = true := by kernel_rfl
attribute [local irreducible] fop fcmp fconv fneg fabs List.getD qw hqw w2w g2w uw

theorem c_b10X {w : World} {a : Option Addr} {c m : Nat} {bs : List Int} (hA : Cl w a (bl bs)) (hb : Bytes bs) (hl : bs.length ≤ 2000000) (hm : m ≤ 1000) : New Try.prog 6 [.slice a bs.length c, .int .i64 (m : Int)] w (fun x : {x : (Option Addr × Nat) × List Nat // x.2.length = m ∧ ∀ y ∈ x.2, Q17 y} => .slice x.1.1.1 x.1.2.length x.1.1.2) (fun x => [⟨x.1.1.1, fl x.1.2, x.1.1.2 * 1, 34⟩]) := by
  refine New.enter Try.func6 rfl Try.ntmps6 (Nat.le_of_ble_eq_true rfl) ?_
  refine V.seq ?_
  refine V.region ?_
  refine VL.r (.inl rfl) rfl (by decide) (yr_assign (u := .slice none 0 0) rfl rfl) ?_
  refine VL.nil ?_
  refine VE.then_wp ?_
  refine V.seq ?_
  refine V.region ?_
  refine VL.r (.inl rfl) rfl (by decide) (yr_move rfl rfl) ?_
  refine VL.new1 (.inl rfl) rfl (by decide) (yn_callf rfl known14_Dd (.cons rfl .nil) (fun w hw => c_from)) ?_
  intro b8
  refine VL.r (.inl rfl) rfl (by decide) (yr_assign rfl rfl) ?_
  refine VL.nil ?_
  refine VE.then_wp ?_
  refine V.seq ?_
  refine V.region ?_
  refine VL.new1 (.inl rfl) rfl (by decide) (yn_lit rfl Try.underlying24 elt34_Dd rfl (by decide) .nil (by first | (simp; done) | (simp [cn, cn1, cn0]; done)) rfl rfl rfl) ?_
  intro b9
  refine VL.r (.inl rfl) rfl (by decide) (yr_assign rfl rfl) ?_
  refine VL.nil ?_
  refine VE.then_wp ?_
  refine V.seq ?_
  refine V.block ?_
  refine V.loopc (G := (List Nat) × (Option Addr) × Nat × Nat × Nat) [(5, _)] (fun ⟨xs, ar, cr, nn, sd⟩ => xs.length ≤ m ∧ (∀ y ∈ xs, Q17 y) ∧ nn ≤ xs.length ∧ sd < 18446744073709551616) (fun ⟨xs, ar, cr, nn, sd⟩ => [⟨ar, fl xs, cr * 1, 34⟩, ⟨some ⟨b8, 0, none⟩, [.slice a bs.length c, .int .i64 ((nn : Nat) : Int), .int .u64 ((sd : Nat) : Int)], 3, 56⟩]) (fun ⟨xs, ar, cr, nn, sd⟩ => [(1, .int .i64 ((m - xs.length : Nat) : Int)), (6, .slice ar xs.length cr)]) (fun ⟨xs, ar, cr, nn, sd⟩ => m - xs.length) ([], some ⟨b9, 0, none⟩, 0, 0, 0) (.cons rfl .nil) (.cons rfl (.cons rfl .nil)) ?_ ?_ ?_
  · exact (fun w hw => by dsimp only; rw [fl_nil]; exact hw.pick (by apply Pick.cons1; (· repeat (first | exact Rem.here | exact Rem.all | exact Rem.hereS | apply Rem.there | apply Rem.thereS)); apply Pick.cons1; (· repeat (first | exact Rem.here | exact Rem.all | exact Rem.hereS | apply Rem.there | apply Rem.thereS)); exact Pick.nil))
  · exact (by exact ⟨Nat.zero_le _, fun y h => (by cases h), Nat.le_refl _, by decide⟩)
  rintro ⟨xs, ar, cr, nn, sd⟩ ⟨hm9, hx9, hn8, hs8⟩
  show V _ _ _ [⟨ar, fl xs, cr * 1, 34⟩, ⟨some ⟨b8, 0, none⟩, [.slice a bs.length c, .int .i64 ((nn : Nat) : Int), .int .u64 ((sd : Nat) : Int)], 3, 56⟩] ([(1, .int .i64 ((m - xs.length : Nat) : Int)), (6, .slice ar xs.length cr)] ++ [(5, _)]) _ _
  refine V.seq ?_
  refine V.seq ?_
  refine V.region ?_
  refine VL.r (.inl rfl) rfl (by decide) (yr_move rfl rfl) ?_
  refine VL.r (.inl rfl) rfl (by decide) (yr_icmp rfl (.inr (.inr (.inr (.inr (.inl rfl))))) rfl rfl) ?_
  refine VL.nil ?_
  refine VE.then_wp ?_
  refine V.cond rfl (fun h1 => ?_) (fun h1 => ?_)
  · skip
    replace h1 := ic_gtr h1
    refine V.skip ?_
    refine VE.then_wp ?_
    refine V.seq ?_
    refine V.block ?_
    refine V.region ?_
    refine VL.r (.inl rfl) rfl (by decide) (yr_move rfl rfl) ?_
    refine VL.r (.inl rfl) rfl (by decide) (yr_move rfl rfl) ?_
    refine VL.c (.inl rfl) rfl (by decide) (yc_callf rfl known16_Dd (.cons rfl (.cons rfl .nil)) (by apply Pick.one; repeat (first | exact Rem.here | apply Rem.there | apply Rem.thereS)) (c_pick (m := 17) hA hb (by omega) (by omega) (by omega) (by decide) (by decide))) ?_
    rintro ⟨⟨x16, s16⟩, hx16, hs16⟩
    dsimp only at hx16 hs16
    refine VL.r (.inl rfl) rfl (by decide) (yr_int rfl rfl rfl (.inr (.inl ⟨rfl, wrap_in (by (try dsimp only); omega)⟩))) ?_
    refine VL.r (.inl rfl) rfl (by decide) (yr_ofInt rfl Try.underlying2 Try.underlying34 rfl) ?_
    refine VL.r (.inl rfl) rfl (by decide) (show YR _ _ _ (.float .f32 (qw x16)) from (by unfold qw; exact yr_float rfl (.inr (.inr (.inr rfl))) rfl rfl)) ?_
    refine VL.new1 (.inl rfl) rfl (by decide) (yn_lit rfl Try.underlying24 elt34_Dd rfl (by decide) (.cons rfl .nil) (by first | (simp; done) | (simp [cn, cn1, cn0]; done)) rfl rfl rfl) ?_
    intro b20
    refine VL.c (.inl rfl) rfl (by decide) (yc_appendz 1 rfl rfl Try.underlying24 elt34_Dd rfl rfl (by repeat (first | exact UpdF.here | apply UpdF.there | apply UpdF.thereS)) (by first | exact Sees.root (by assumption) | exact Sees.own (by repeat (first | exact List.mem_cons_self | exact List.mem_append_left _ (by assumption) | apply List.mem_cons_of_mem | apply List.mem_append_right)) | exact Sees.root (hR _ (by omega)) | exact Sees.own (RowsIn.mem (by repeat (first | exact RowsIn.here | exact RowsIn.last | apply RowsIn.there | apply RowsIn.thereS)) _ (by omega)) | exact Sees.own (WRowsIn.mem (by repeat (first | exact WRowsIn.here | exact WRowsIn.last | apply WRowsIn.there | apply WRowsIn.thereS)) _ (by omega))) rfl (by rw [fl_length, Nat.mul_one]) rfl (by first | rfl | exact fl_scal _) rfl (by omega) (by omega)) ?_
    rintro ⟨a21, c21⟩
    refine VL.r (.inl rfl) rfl (by decide) (yr_assign rfl rfl) ?_
    refine VL.nil ?_
    refine VE.block_normal ?_
    refine VE.then_wp ?_
    refine V.region ?_
    refine VL.r (.inl rfl) rfl (by decide) (yr_move rfl rfl) ?_
    refine VL.r (.inl rfl) rfl (by decide) (yr_int rfl rfl rfl (.inr (.inl ⟨rfl, wrap_in (by (try dsimp only); omega)⟩))) ?_
    refine VL.r (.inl rfl) rfl (by decide) (yr_assign rfl rfl) ?_
    refine VL.nil ?_
    refine VE.round (xs ++ [qw x16], a21, c21, nn + 1, s16) ?_ ?_ ?_ ?_ ?_
    · exact (.cons (congrArg (fun i => some (Value.int .i64 i)) (by rw [List.length_append]; show _ = ((m - (xs.length + 1) : Nat) : Int); omega)) (.cons (congrArg (fun n => some (Value.slice _ n _)) (by rw [List.length_append]; rfl)) .nil))
    · exact (.cons rfl .nil)
    · exact (fun w hw => by dsimp only; rw [← fl_snoc]; exact hw.pick (by apply Pick.cons1; (· repeat (first | exact Rem.here | exact Rem.all | exact Rem.hereS | apply Rem.there | apply Rem.thereS)); apply Pick.cons1; (· repeat (first | exact Rem.here | exact Rem.all | exact Rem.hereS | apply Rem.there | apply Rem.thereS)); exact Pick.nil))
    · dsimp only
      simp only [List.length_append, List.length_cons, List.length_nil, Nat.zero_add]
      exact ⟨by omega, mem_app hx9 (mem_one ⟨x16, hx16, rfl⟩), by omega, hs16⟩
    · dsimp only; rw [List.length_append]; show m - (xs.length + 1) < m - xs.length; omega
  · skip
    replace h1 := ic_gtr' h1
    refine V.exit ?_
    refine VE.then_exit ?_
    refine VE.then_exit ?_
    refine VE.block_here ?_
    refine VE.then_wp ?_
    refine V.seq ?_
    refine V.region ?_
    refine VL.r (.inl rfl) rfl (by decide) (yr_move rfl rfl) ?_
    refine VL.r (.inl rfl) rfl (by decide) (yr_assign rfl rfl) ?_
    refine VL.nil ?_
    refine VE.then_wp ?_
    refine V.ret ?_
    refine ret1 rfl rfl (fun w1 hw => ?_)
    exact ⟨⟨((ar, cr), xs), by show xs.length = m; omega, hx9⟩, rfl, (hw.pick (by apply Pick.cons1; (· repeat (first | exact Rem.here | exact Rem.all | exact Rem.hereS | apply Rem.there | apply Rem.thereS)); exact Pick.nil)).outs (List.Sublist.refl _)⟩

theorem c_b10Long {w : World} {a b : Option Addr} {c d n m : Nat} : Pure Try.prog 4 [.slice a n c, .slice b m d] w (.bool (decide (1048576 < n) || decide (1048576 < m))) := by
  refine Pure.enter Try.func4 rfl Try.ntmps4 (Nat.le_of_ble_eq_true rfl) ?_
  refine V.seq ?_
  refine V.region ?_
  refine VL.r (.inl rfl) rfl (by decide) (yr_assign (u := .bool false) rfl rfl) ?_
  refine VL.nil ?_
  refine VE.then_wp ?_
  refine V.seq ?_
  refine V.region ?_
  refine VL.r (.inl rfl) rfl (by decide) (yr_move rfl rfl) ?_
  refine VL.r (.inl rfl) rfl (by decide) (yr_len rfl Try.underlying22 rfl) ?_
  refine VL.r (.inl rfl) rfl (by decide) (yr_icmp rfl (.inr (.inr (.inr (.inr (.inl rfl))))) rfl rfl) ?_
  refine VL.r (.inl rfl) rfl (by decide) (yr_move rfl rfl) ?_
  refine VX.split 8 _ rfl (fun h1 => ?_) (fun h1 => ?_)
  · skip
    replace h1 := ic_gtr h1
    refine VL.no rfl rfl rfl rfl rfl (by decide) ?_
    refine VL.no rfl rfl rfl rfl rfl (by decide) ?_
    refine VL.no rfl rfl rfl rfl rfl (by decide) ?_
    refine VL.r (.inl rfl) rfl (by decide) (yr_pick_t (u := .bool true) rfl rfl rfl) ?_
    refine VL.r (.inl rfl) rfl (by decide) (yr_assign rfl rfl) ?_
    refine VL.nil ?_
    refine VE.then_wp ?_
    refine V.ret ?_
    refine ret1 rfl rfl (fun w1 hw => ?_)
    first
      | exact ⟨congrArg Value.bool (by rw [decide_eq_true (show 1048576 < n by omega)]; rfl), hw.below⟩
      | exact ⟨congrArg Value.bool (by rw [decide_eq_false (show ¬ 1048576 < n by omega), Bool.false_or]; exact decide_eq_decide.2 (by omega)), hw.below⟩
  · skip
    replace h1 := ic_gtr' h1
    refine VL.r (.inr ⟨_, _, _, rfl, rfl, rfl⟩) rfl (by decide) (yr_move rfl rfl) ?_
    refine VL.r (.inr ⟨_, _, _, rfl, rfl, rfl⟩) rfl (by decide) (yr_len rfl Try.underlying22 rfl) ?_
    refine VL.r (.inr ⟨_, _, _, rfl, rfl, rfl⟩) rfl (by decide) (yr_icmp rfl (.inr (.inr (.inr (.inr (.inl rfl))))) rfl rfl) ?_
    refine VL.r (.inl rfl) rfl (by decide) (yr_pick_f rfl rfl rfl) ?_
    refine VL.r (.inl rfl) rfl (by decide) (yr_assign rfl rfl) ?_
    refine VL.nil ?_
    refine VE.then_wp ?_
    refine V.ret ?_
    refine ret1 rfl rfl (fun w1 hw => ?_)
    first
      | exact ⟨congrArg Value.bool (by rw [decide_eq_true (show 1048576 < n by omega)]; rfl), hw.below⟩
      | exact ⟨congrArg Value.bool (by rw [decide_eq_false (show ¬ 1048576 < n by omega), Bool.false_or]; exact decide_eq_decide.2 (by omega)), hw.below⟩

theorem c_b10At {w : World} {a : Option Addr} {c k m : Nat} {bs : List Int} (hA : Cl w a (bl bs)) (hb : Bytes bs) (hl : bs.length ≤ 2000000) (hm : 1 ≤ m) (hk : k ≤ 100000) : New Try.prog 7 [.slice a bs.length c, .int .i64 (k : Int), .int .i64 (m : Int)] w (fun x : {x : Nat // x < m} => .int .i64 ((x.1 : Nat) : Int)) (fun _ => []) := by
  refine New.enter Try.func7 rfl Try.ntmps7 (Nat.le_of_ble_eq_true rfl) ?_
  refine V.seq ?_
  refine V.region ?_
  refine VL.r (.inl rfl) rfl (by decide) (yr_assign (u := .int .i64 0) rfl rfl) ?_
  refine VL.nil ?_
  refine VE.then_wp ?_
  refine V.seq ?_
  refine V.seq ?_
  refine V.region ?_
  refine VL.r (.inl rfl) rfl (by decide) (yr_move rfl rfl) ?_
  refine VL.r (.inl rfl) rfl (by decide) (yr_icmp rfl (.inr (.inr (.inr (.inl rfl)))) rfl rfl) ?_
  refine VL.nil ?_
  refine VE.then_wp ?_
  refine V.cond rfl (fun h1 => ?_) (fun h1 => ?_)
  · skip
    replace h1 := ic_leq h1
    refine V.seq ?_
    refine V.region ?_
    refine VL.r (.inl rfl) rfl (by decide) (yr_assign (u := .int .i64 0) rfl rfl) ?_
    refine VL.nil ?_
    refine VE.then_wp ?_
    refine V.ret ?_
    refine VE.then_ret ?_
    refine ret1 rfl rfl (fun w1 hw => ?_)
    first
      | exact ⟨⟨0, by omega⟩, rfl, hw.below, (fun _ h => by cases h), List.Pairwise.nil⟩
      | exact ⟨⟨_ % m, Nat.mod_lt _ (by omega)⟩, rfl, hw.below, (fun _ h => by cases h), List.Pairwise.nil⟩
  · skip
    replace h1 := ic_leq' h1
    refine V.skip ?_
    refine VE.then_wp ?_
    refine V.seq ?_
    refine V.seq ?_
    refine V.region ?_
    refine VL.r (.inl rfl) rfl (by decide) (yr_move rfl rfl) ?_
    refine VL.r (.inl rfl) rfl (by decide) (yr_move rfl rfl) ?_
    refine VL.r (.inl rfl) rfl (by decide) (yr_len rfl Try.underlying22 rfl) ?_
    refine VL.r (.inl rfl) rfl (by decide) (yr_icmp rfl (.inr (.inr (.inl rfl))) rfl rfl) ?_
    refine VL.nil ?_
    refine VE.then_wp ?_
    refine V.cond rfl (fun h2 => ?_) (fun h2 => ?_)
    · skip
      replace h2 := ic_lss h2
      have hbn := byte_get hb (show k < bs.length by omega)
      refine V.seq ?_
      refine V.region ?_
      refine VL.r (.inl rfl) rfl (by decide) (yr_move rfl rfl) ?_
      refine VL.r (.inl rfl) rfl (by decide) (yr_move rfl rfl) ?_
      refine VL.q (.inl rfl) rfl (by decide) (yq_idx (k := k) rfl Try.underlying22 sz5_Dd rfl rfl (by first | exact Sees.root (by assumption) | exact Sees.own (by repeat (first | exact List.mem_cons_self | exact List.mem_append_left _ (by assumption) | apply List.mem_cons_of_mem | apply List.mem_append_right)) | exact Sees.root (hR _ (by omega)) | exact Sees.own (RowsIn.mem (by repeat (first | exact RowsIn.here | exact RowsIn.last | apply RowsIn.there | apply RowsIn.thereS)) _ (by omega)) | exact Sees.own (WRowsIn.mem (by repeat (first | exact WRowsIn.here | exact WRowsIn.last | apply WRowsIn.there | apply WRowsIn.thereS)) _ (by omega))) (by first | rfl | omega | (push_cast; rfl) | (push_cast; omega) | exact tmod_nat _ _) (by exact bl_length _) (by omega)) ?_
      refine VL.q (.inl rfl) rfl (by decide) (yq_load (u := .int .u8 (bs.getD k 0)) rfl fb5_Dd rfl (by first | exact Sees.root (by assumption) | exact Sees.own (by repeat (first | exact List.mem_cons_self | exact List.mem_append_left _ (by assumption) | apply List.mem_cons_of_mem | apply List.mem_append_right)) | exact Sees.root (hR _ (by omega)) | exact Sees.own (RowsIn.mem (by repeat (first | exact RowsIn.here | exact RowsIn.last | apply RowsIn.there | apply RowsIn.thereS)) _ (by omega)) | exact Sees.own (WRowsIn.mem (by repeat (first | exact WRowsIn.here | exact WRowsIn.last | apply WRowsIn.there | apply WRowsIn.thereS)) _ (by omega))) (bl_get (by omega))) ?_
      refine VL.r (.inl rfl) rfl (by decide) (yr_intConv (r := bs.getD k 0) rfl Try.underlying5 Try.underlying2 rfl (wrap_in (by omega))) ?_
      refine VL.r (.inl rfl) rfl (by decide) (yr_move rfl rfl) ?_
      refine VL.r (.inl rfl) rfl (by decide) (yr_remN (bs.getD k 0).toNat m rfl rfl rfl (by rw [Int.toNat_of_nonneg hbn.1]) rfl (by omega)) ?_
      refine VL.r (.inl rfl) rfl (by decide) (yr_assign rfl rfl) ?_
      refine VL.nil ?_
      refine VE.then_wp ?_
      refine V.ret ?_
      refine VE.then_ret ?_
      refine ret1 rfl rfl (fun w1 hw => ?_)
      first
        | exact ⟨⟨0, by omega⟩, rfl, hw.below, (fun _ h => by cases h), List.Pairwise.nil⟩
        | exact ⟨⟨_ % m, Nat.mod_lt _ (by omega)⟩, rfl, hw.below, (fun _ h => by cases h), List.Pairwise.nil⟩
    · skip
      replace h2 := ic_lss' h2
      refine V.skip ?_
      refine VE.then_wp ?_
      refine V.seq ?_
      refine V.region ?_
      refine VL.r (.inl rfl) rfl (by decide) (yr_move rfl rfl) ?_
      refine VL.r (.inl rfl) rfl (by decide) (yr_mulN k 37 rfl rfl rfl rfl rfl (by omega)) ?_
      refine VL.r (.inl rfl) rfl (by decide) (yr_addN (k * 37 + 11) rfl rfl rfl (by push_cast; rfl) (by omega)) ?_
      refine VL.r (.inl rfl) rfl (by decide) (yr_move rfl rfl) ?_
      refine VL.r (.inl rfl) rfl (by decide) (yr_remN (k * 37 + 11) m rfl rfl rfl rfl rfl (by omega)) ?_
      refine VL.r (.inl rfl) rfl (by decide) (yr_assign rfl rfl) ?_
      refine VL.nil ?_
      refine VE.then_wp ?_
      refine V.ret ?_
      refine ret1 rfl rfl (fun w1 hw => ?_)
      first
        | exact ⟨⟨0, by omega⟩, rfl, hw.below, (fun _ h => by cases h), List.Pairwise.nil⟩
        | exact ⟨⟨_ % m, Nat.mod_lt _ (by omega)⟩, rfl, hw.below, (fun _ h => by cases h), List.Pairwise.nil⟩

end Go.Proofs.Ytpoigbpaeniikaa


namespace Go.Proofs.Ytpoigbpaeniikaa
open Go.RowKit
set_option linter.unusedVariables false
set_option linter.unusedSimpArgs false
set_option maxRecDepth 20000

theorem sz34_Rows : (Try.prog.info? 34).map (·.size) = some 1 := by kernel_rfl
theorem fb34_Rows : flatB Try.prog 34 = true := by kernel_rfl
theorem known45_Rows : Known Try.prog 45 := Known.mk' Try.func45 (by kernel_rfl)
theorem known32_Rows : Known Try.prog 32 := Known.mk' Try.func32 (by kernel_rfl)
theorem known41_Rows : Known Try.prog 41 := Known.mk' Try.func41 (by kernel_rfl)
theorem known39_Rows : Known Try.prog 39 := Known.mk' Try.func39 (by kernel_rfl)
theorem known40_Rows : Known Try.prog 40 := Known.mk' Try.func40 (by kernel_rfl)

theorem c_idxF {w : World} {a : Option Addr} {c : Nat} {xs : List Nat} {g : FuncId} {cs : Array Value} {p : Nat → Bool} (hA : Cl w a (fl xs)) (hg : Known Try.prog g) (hF : ∀ w', Below w.heap.size w w' → ∀ k, k < xs.length → Pure Try.prog g ([.float .f32 (xs.getD k 0)] ++ cs.toList.map cn) w' (.bool (p k))) (hn : xs.length ≤ 1050000) : Pure Try.prog 45 [.slice a xs.length c, .func (.func g) #[] cs] w (.int .i64 (idxI p xs.length)) := by
  refine Pure.enter Try.func45 rfl Try.ntmps45 (Nat.le_of_ble_eq_true rfl) ?_
  refine V.seq ?_
  refine V.region ?_
  refine VL.r (.inl rfl) rfl (by decide) (yr_assign (u := .int .i64 0) rfl rfl) ?_
  refine VL.nil ?_
  refine VE.then_wp ?_
  refine V.seq ?_
  refine V.seq ?_
  refine V.region ?_
  refine VL.r (.inl rfl) rfl (by decide) (yr_move rfl rfl) ?_
  refine VL.r (.inl rfl) rfl (by decide) (yr_len rfl Try.underlying24 rfl) ?_
  refine VL.r (.inl rfl) rfl (by decide) (yr_move (u := .int .i64 0) rfl rfl) ?_
  refine VL.nil ?_
  refine VE.then_wp ?_
  refine V.block ?_
  refine V.loops (G := Nat) [(0, _), (1, _), (7, _)] (fun (k : Nat) => k ≤ xs.length ∧ ∀ j, j < k → p j = false) (fun (k : Nat) => [(8, .int .i64 (k : Int))]) (fun (k : Nat) => xs.length - k) 0 (.cons rfl (.cons rfl (.cons rfl .nil))) (.cons rfl .nil) ?_ ?_
  · exact (by exact ⟨by omega, fun j h => by omega⟩)
  rintro k ⟨hk, hI⟩
  show V _ _ _ _ ([(8, .int .i64 (k : Int))] ++ [(0, _), (1, _), (7, _)]) _ _
  refine V.seq ?_
  refine V.region ?_
  refine VL.r (.inl rfl) rfl (by decide) (yr_icmp rfl (.inr (.inr (.inl rfl))) rfl rfl) ?_
  refine VL.nil ?_
  refine VE.then_wp ?_
  refine V.seq ?_
  refine V.cond rfl (fun h1 => ?_) (fun h1 => ?_)
  · skip
    replace h1 := ic_lss h1
    refine V.skip ?_
    refine VE.then_wp ?_
    refine V.seq ?_
    refine V.block ?_
    refine V.seq ?_
    refine V.region ?_
    refine VL.r (.inl rfl) rfl (by decide) (yr_move rfl rfl) ?_
    refine VL.r (.inl rfl) rfl (by decide) (yr_assign rfl rfl) ?_
    refine VL.nil ?_
    refine VE.then_wp ?_
    refine V.seq ?_
    refine V.region ?_
    refine VL.r (.inl rfl) rfl (by decide) (yr_move rfl rfl) ?_
    refine VL.r (.inl rfl) rfl (by decide) (yr_move rfl rfl) ?_
    refine VL.r (.inl rfl) rfl (by decide) (yr_move rfl rfl) ?_
    refine VL.q (.inl rfl) rfl (by decide) (yq_idx (k := k) rfl Try.underlying24 sz34_Rows rfl rfl (by first | exact Sees.root (by assumption) | exact Sees.own (by repeat (first | exact List.mem_cons_self | exact List.mem_append_left _ (by assumption) | apply List.mem_cons_of_mem | apply List.mem_append_right)) | exact Sees.root (hR _ (by omega)) | exact Sees.own (RowsIn.mem (by repeat (first | exact RowsIn.here | exact RowsIn.last | apply RowsIn.there | apply RowsIn.thereS)) _ (by omega)) | exact Sees.own (WRowsIn.mem (by repeat (first | exact WRowsIn.here | exact WRowsIn.last | apply WRowsIn.there | apply WRowsIn.thereS)) _ (by omega))) (by first | rfl | omega | (push_cast; rfl) | (push_cast; omega) | exact tmod_nat _ _) (by exact fl_length _) (by omega)) ?_
    refine VL.q (.inl rfl) rfl (by decide) (yq_loadF rfl fb34_Rows rfl (by first | exact Sees.root (by assumption) | exact Sees.own (by repeat (first | exact List.mem_cons_self | exact List.mem_append_left _ (by assumption) | apply List.mem_cons_of_mem | apply List.mem_append_right)) | exact Sees.root (hR _ (by omega)) | exact Sees.own (RowsIn.mem (by repeat (first | exact RowsIn.here | exact RowsIn.last | apply RowsIn.there | apply RowsIn.thereS)) _ (by omega)) | exact Sees.own (WRowsIn.mem (by repeat (first | exact WRowsIn.here | exact WRowsIn.last | apply WRowsIn.there | apply WRowsIn.thereS)) _ (by omega))) (by omega)) ?_
    refine VL.q (.inl rfl) rfl (by decide) (yq_call rfl hg rfl (.cons rfl .nil) (fun w hw => hF w hw.below k (by omega))) ?_
    refine VL.nil ?_
    refine VE.then_wp ?_
    refine V.cond rfl (fun h2 => ?_) (fun h2 => ?_)
    · skip
      refine V.seq ?_
      refine V.region ?_
      refine VL.r (.inl rfl) rfl (by decide) (yr_move rfl rfl) ?_
      refine VL.r (.inl rfl) rfl (by decide) (yr_assign rfl rfl) ?_
      refine VL.nil ?_
      refine VE.then_wp ?_
      refine V.ret ?_
      refine VE.block_ret ?_
      refine VE.then_ret ?_
      refine VE.then_ret ?_
      refine VE.block_ret ?_
      refine VE.then_ret ?_
      refine ret1 rfl rfl (fun w1 hw => ?_)
      exact ⟨by rw [idxI_of hI (by assumption) (by omega)], hw.below⟩
    · skip
      refine V.skip ?_
      refine VE.block_normal ?_
      refine VE.then_wp ?_
      refine V.region ?_
      refine VL.r (.inl rfl) rfl (by decide) (yr_int rfl rfl rfl (.inl ⟨rfl, wrap_in (by omega)⟩)) ?_
      refine VL.r (.inl rfl) rfl (by decide) (yr_move rfl rfl) ?_
      refine VL.nil ?_
      refine VE.round (k + 1) ?_ ?_ ?_ ?_ ?_
      · exact (.cons rfl .nil)
      · exact (.cons rfl (.cons rfl (.cons rfl .nil)))
      · exact (fun w hw => hw)
      · exact ⟨by omega, fun j hj => by rcases Nat.lt_or_ge j k with h | h; exact hI j h; obtain rfl : j = k := (by omega); assumption⟩
      · (try dsimp only); omega
  · skip
    replace h1 := ic_lss' h1
    refine V.exit ?_
    refine VE.then_exit ?_
    refine VE.then_exit ?_
    refine VE.block_here ?_
    refine VE.then_wp ?_
    refine V.seq ?_
    refine V.region ?_
    refine VL.r (.inl rfl) rfl (by decide) (yr_assign (u := .int .i64 (-1)) rfl rfl) ?_
    refine VL.nil ?_
    refine VE.then_wp ?_
    refine V.ret ?_
    refine ret1 rfl rfl (fun w1 hw => ?_)
    obtain rfl : k = xs.length := by omega
    exact ⟨by rw [idxI_no hI], hw.below⟩

theorem c_hasF {w : World} {a : Option Addr} {c : Nat} {xs : List Nat} {g : FuncId} {cs : Array Value} {p : Nat → Bool} (hA : Cl w a (fl xs)) (hg : Known Try.prog g) (hF : ∀ w', Below w.heap.size w w' → ∀ k, k < xs.length → Pure Try.prog g ([.float .f32 (xs.getD k 0)] ++ cs.toList.map cn) w' (.bool (p k))) (hn : xs.length ≤ 1050000) : Pure Try.prog 39 [.slice a xs.length c, .func (.func g) #[] cs] w (.bool (decide (0 ≤ idxI p xs.length))) := by
  refine Pure.enter Try.func39 rfl Try.ntmps39 (Nat.le_of_ble_eq_true rfl) ?_
  refine V.seq ?_
  refine V.region ?_
  refine VL.r (.inl rfl) rfl (by decide) (yr_assign (u := .bool false) rfl rfl) ?_
  refine VL.nil ?_
  refine VE.then_wp ?_
  refine V.seq ?_
  refine V.region ?_
  refine VL.r (.inl rfl) rfl (by decide) (yr_move rfl rfl) ?_
  refine VL.r (.inl rfl) rfl (by decide) (yr_move rfl rfl) ?_
  refine VL.q (.inl rfl) rfl (by decide) (yq_callf rfl known45_Rows (.cons rfl (.cons rfl .nil)) (fun w hw => (c_idxF (by first | exact Sees.root (by assumption) w hw | exact Sees.own (by repeat (first | exact List.mem_cons_self | exact List.mem_append_left _ (by assumption) | apply List.mem_cons_of_mem | apply List.mem_append_right)) w hw) hg (fun w1 hb => hF w1 (hw.below.trans (hb.mono hw.below.size))) (by omega)))) ?_
  refine VL.r (.inl rfl) rfl (by decide) (yr_icmp rfl (.inr (.inr (.inr (.inr (.inr rfl))))) rfl rfl) ?_
  refine VL.r (.inl rfl) rfl (by decide) (yr_assign rfl rfl) ?_
  refine VL.nil ?_
  refine VE.then_wp ?_
  refine V.ret ?_
  refine ret1 rfl rfl (fun w1 hw => ?_)
  exact ⟨rfl, hw.below⟩

theorem c_areFin1 {w : World} (x : Nat) : Pure Try.prog 41 [.float .f32 x] w (.bool (!fin x)) := by
  refine Pure.enter Try.func41 rfl Try.ntmps41 (Nat.le_of_ble_eq_true rfl) ?_
  refine V.seq ?_
  refine V.region ?_
  refine VL.r (.inl rfl) rfl (by decide) (yr_assign (u := .bool false) rfl rfl) ?_
  refine VL.nil ?_
  refine VE.then_wp ?_
  refine V.seq ?_
  refine V.region ?_
  refine VL.r (.inl rfl) rfl (by decide) (yr_move rfl rfl) ?_
  refine VL.q (.inl rfl) rfl (by decide) (yq_callf rfl known32_Rows (.cons rfl .nil) (fun w hw => c_IsFinite _)) ?_
  refine VL.r (.inl rfl) rfl (by decide) (yr_not rfl rfl) ?_
  refine VL.r (.inl rfl) rfl (by decide) (yr_assign rfl rfl) ?_
  refine VL.nil ?_
  refine VE.then_wp ?_
  refine V.ret ?_
  refine ret1 rfl rfl (fun w1 hw => ?_)
  exact ⟨rfl, hw.below⟩

theorem c_areNot1 {w : World} (x : Nat) : Pure Try.prog 40 [.float .f32 x] w (.bool (!least x)) := by
  refine Pure.enter Try.func40 rfl Try.ntmps40 (Nat.le_of_ble_eq_true rfl) ?_
  refine V.seq ?_
  refine V.region ?_
  refine VL.r (.inl rfl) rfl (by decide) (yr_assign (u := .bool false) rfl rfl) ?_
  refine VL.nil ?_
  refine VE.then_wp ?_
  refine V.seq ?_
  refine V.region ?_
  refine VL.r (.inl rfl) rfl (by decide) (yr_move rfl rfl) ?_
  refine VL.q (.inl rfl) rfl (by decide) (yq_callf rfl known32_Rows (.cons rfl .nil) (fun w hw => c_IsFinite _)) ?_
  refine VL.r (.inl rfl) rfl (by decide) (yr_not rfl rfl) ?_
  refine VL.r (.inl rfl) rfl (by decide) (yr_move rfl rfl) ?_
  refine VX.split 6 _ rfl (fun h1 => ?_) (fun h1 => ?_)
  · skip
    replace h1 := bnot_t h1
    refine VL.no rfl rfl rfl rfl rfl (by decide) ?_
    refine VL.no rfl rfl rfl rfl rfl (by decide) ?_
    refine VL.r (.inl rfl) rfl (by decide) (yr_pick_t (u := .bool true) rfl rfl rfl) ?_
    refine VL.r (.inl rfl) rfl (by decide) (yr_assign rfl rfl) ?_
    refine VL.nil ?_
    refine VE.then_wp ?_
    refine V.ret ?_
    refine ret1 rfl rfl (fun w1 hw => ?_)
    exact ⟨by simp only [least, *, Bool.false_and, Bool.not_false], hw.below⟩
  · skip
    replace h1 := bnot_f h1
    refine VL.r (.inr ⟨_, _, _, rfl, rfl, rfl⟩) rfl (by decide) (yr_move rfl rfl) ?_
    refine VL.r (.inr ⟨_, _, _, rfl, rfl, rfl⟩) rfl (by decide) (yr_fcmp (b := 0) rfl (.inr (.inr (.inl rfl))) rfl rfl) ?_
    refine VL.r (.inl rfl) rfl (by decide) (yr_pick_f rfl rfl rfl) ?_
    refine VL.r (.inl rfl) rfl (by decide) (yr_assign rfl rfl) ?_
    refine VL.nil ?_
    refine VE.then_wp ?_
    refine V.ret ?_
    refine ret1 rfl rfl (fun w1 hw => ?_)
    exact ⟨by simp only [least, *, Bool.true_and, lss_geq, Bool.not_not], hw.below⟩

theorem c_areFinite {w : World} {a : Option Addr} {c : Nat} {xs : List Nat} (hA : Cl w a (fl xs)) (hn : xs.length ≤ 1050000) : Pure Try.prog 30 [.slice a xs.length c] w (.bool (xs.all fin)) := by
  refine Pure.enter Try.func30 rfl Try.ntmps30 (Nat.le_of_ble_eq_true rfl) ?_
  refine V.seq ?_
  refine V.region ?_
  refine VL.r (.inl rfl) rfl (by decide) (yr_assign (u := .bool false) rfl rfl) ?_
  refine VL.nil ?_
  refine VE.then_wp ?_
  refine V.seq ?_
  refine V.region ?_
  refine VL.r (.inl rfl) rfl (by decide) (yr_move rfl rfl) ?_
  refine VL.q (.inl rfl) rfl (by decide) (yq_callf rfl known39_Rows (.cons rfl (.cons rfl .nil)) (fun w hw => (c_hasF (p := fun k => !fin (xs.getD k 0)) (by first | exact Sees.root (by assumption) w hw | exact Sees.own (by repeat (first | exact List.mem_cons_self | exact List.mem_append_left _ (by assumption) | apply List.mem_cons_of_mem | apply List.mem_append_right)) w hw) known41_Rows (fun w1 _ k _ => c_areFin1 _) (by omega)))) ?_
  refine VL.r (.inl rfl) rfl (by decide) (yr_not rfl rfl) ?_
  refine VL.r (.inl rfl) rfl (by decide) (yr_assign rfl rfl) ?_
  refine VL.nil ?_
  refine VE.then_wp ?_
  refine V.ret ?_
  refine ret1 rfl rfl (fun w1 hw => ?_)
  exact ⟨congrArg Value.bool (all_list fin xs), hw.below⟩

theorem c_areNotNeg {w : World} {a : Option Addr} {c : Nat} {xs : List Nat} (hA : Cl w a (fl xs)) (hn : xs.length ≤ 1050000) : Pure Try.prog 29 [.slice a xs.length c] w (.bool (xs.all least)) := by
  refine Pure.enter Try.func29 rfl Try.ntmps29 (Nat.le_of_ble_eq_true rfl) ?_
  refine V.seq ?_
  refine V.region ?_
  refine VL.r (.inl rfl) rfl (by decide) (yr_assign (u := .bool false) rfl rfl) ?_
  refine VL.nil ?_
  refine VE.then_wp ?_
  refine V.seq ?_
  refine V.region ?_
  refine VL.r (.inl rfl) rfl (by decide) (yr_move rfl rfl) ?_
  refine VL.q (.inl rfl) rfl (by decide) (yq_callf rfl known39_Rows (.cons rfl (.cons rfl .nil)) (fun w hw => (c_hasF (p := fun k => !least (xs.getD k 0)) (by first | exact Sees.root (by assumption) w hw | exact Sees.own (by repeat (first | exact List.mem_cons_self | exact List.mem_append_left _ (by assumption) | apply List.mem_cons_of_mem | apply List.mem_append_right)) w hw) known40_Rows (fun w1 _ k _ => c_areNot1 _) (by omega)))) ?_
  refine VL.r (.inl rfl) rfl (by decide) (yr_not rfl rfl) ?_
  refine VL.r (.inl rfl) rfl (by decide) (yr_assign rfl rfl) ?_
  refine VL.nil ?_
  refine VE.then_wp ?_
  refine V.ret ?_
  refine ret1 rfl rfl (fun w1 hw => ?_)
  exact ⟨congrArg Value.bool (all_list least xs), hw.below⟩

end Go.Proofs.Ytpoigbpaeniikaa


namespace Go.Proofs.Ytpoigbpaeniikaa
open Go.RowKit

def mA (n : Nat) (rs ls : List Nat) (tk : Nat) (i j : Nat) : CP := (if i = j then fop .add .f32 (ls.getD (i * n + j) 0) (fop .mul .f32 tk (rs.getD i 0)) else ls.getD (i * n + j) 0, 0)
def sI (n : Nat) (ls js : List Nat) (i : Nat) : Nat → Nat
  | 0 => 0
  | j + 1 => fop .add .f32 (sI n ls js i j) (fop .mul .f32 (ls.getD (i * n + j) 0) (js.getD j 0))
def bW (n : Nat) (gs ls qs js vs : List Nat) (tk i : Nat) : Nat := fop .add .f32 (sI n ls js i n) (fop .mul .f32 tk (fop .sub .f32 (vs.getD i 0) (fop .mul .f32 (gs.getD i 0) (qs.getD i 0))))
def bV (n : Nat) (gs ls qs js vs : List Nat) (tk i : Nat) : CP := (bW n gs ls qs js vs tk i, 0)
def sqL (n : Nat) (rs ls : List Nat) (tk m : Nat) : List CP := (List.range m).map fun q => mA n rs ls tk (q / n) (q % n)
def rtL (n : Nat) (gs ls qs js vs : List Nat) (tk m : Nat) : List CP := (List.range m).map (bV n gs ls qs js vs tk)
abbrev xs1 (n : Nat) (rs gs ls qs js vs : List Nat) (tk : Nat) : List CP := solC n (mA n rs ls tk) (bV n gs ls qs js vs tk)
def nI (n : Nat) (rs gs ls qs js vs : List Nat) (tk m : Nat) : List Nat := (List.range m).map fun i => ((xs1 n rs gs ls qs js vs tk).getD i (0, 0)).1
def nQ (n : Nat) (rs gs ls qs js vs : List Nat) (tk m : Nat) : List Nat := (List.range m).map fun i => fop .add .f32 (qs.getD i 0) (fop .mul .f32 tk ((xs1 n rs gs ls qs js vs tk).getD i (0, 0)).1)
structure CirOk (n : Nat) (rs gs ls : List Nat) : Prop where
  hr : rs.length = n
  hg : gs.length = n
  hl : ls.length = n * n
  n1 : 1 ≤ n
  n6 : n ≤ 6
  rl : rs.all least = true
  gl : gs.all least = true
  lf : ls.all fin = true
  dg : ∀ i, i < n → fcmp .gtr .f32 (ls.getD (i * n + i) 0) 0 = true
  sy : ∀ i j, j < i → i < n → fcmp .neq .f32 (ls.getD (i * n + j) 0) (ls.getD (j * n + i) 0) = false
theorem sqL_length (n : Nat) (rs ls : List Nat) (tk m : Nat) : (sqL n rs ls tk m).length = m := by simp [sqL]
theorem rtL_length (n : Nat) (gs ls qs js vs : List Nat) (tk m : Nat) : (rtL n gs ls qs js vs tk m).length = m := by simp [rtL]
theorem nI_length (n : Nat) (rs gs ls qs js vs : List Nat) (tk m : Nat) : (nI n rs gs ls qs js vs tk m).length = m := by simp [nI]
theorem nQ_length (n : Nat) (rs gs ls qs js vs : List Nat) (tk m : Nat) : (nQ n rs gs ls qs js vs tk m).length = m := by simp [nQ]
theorem sqL_succ {n i j : Nat} (rs ls : List Nat) (tk : Nat) (h : j < n) : sqL n rs ls tk (i * n + j + 1) = sqL n rs ls tk (i * n + j) ++ [mA n rs ls tk i j] := by
  unfold sqL
  rw [List.range_succ, List.map_append, List.map_cons, List.map_nil]
  rw [show (i * n + j) / n = i by rw [Nat.add_comm, Nat.add_mul_div_right _ _ (by omega), Nat.div_eq_of_lt h, Nat.zero_add], show (i * n + j) % n = j by rw [Nat.add_comm, Nat.add_mul_mod_self_right, Nat.mod_eq_of_lt h]]
theorem sqL_get {n i j : Nat} (rs ls : List Nat) (tk : Nat) (hi : i < n) (h : j < n) : (sqL n rs ls tk (n * n)).getD (i * n + j) (0, 0) = mA n rs ls tk i j := by
  have hb : i * n + j < n * n := by
    have := Nat.mul_le_mul_right n (show i + 1 ≤ n from hi)
    rw [Nat.add_mul, Nat.one_mul] at this
    omega
  simp only [sqL, List.getD, List.getElem?_map, List.getElem?_range hb, Option.map_some, Option.getD_some]
  rw [show (i * n + j) / n = i by rw [Nat.add_comm, Nat.add_mul_div_right _ _ (by omega), Nat.div_eq_of_lt h, Nat.zero_add], show (i * n + j) % n = j by rw [Nat.add_comm, Nat.add_mul_mod_self_right, Nat.mod_eq_of_lt h]]
theorem rtL_succ (n : Nat) (gs ls qs js vs : List Nat) (tk m : Nat) : rtL n gs ls qs js vs tk (m + 1) = rtL n gs ls qs js vs tk m ++ [bV n gs ls qs js vs tk m] := by
  simp [rtL, List.range_succ]
theorem rtL_get {n i m : Nat} (gs ls qs js vs : List Nat) (tk : Nat) (hi : i < m) : (rtL n gs ls qs js vs tk m).getD i (0, 0) = bV n gs ls qs js vs tk i := by
  simp [rtL, List.getD, hi]
theorem nI_succ (n : Nat) (rs gs ls qs js vs : List Nat) (tk m : Nat) : nI n rs gs ls qs js vs tk (m + 1) = nI n rs gs ls qs js vs tk m ++ [((xs1 n rs gs ls qs js vs tk).getD m (0, 0)).1] := by
  simp [nI, List.range_succ]
theorem nQ_succ (n : Nat) (rs gs ls qs js vs : List Nat) (tk m : Nat) : nQ n rs gs ls qs js vs tk (m + 1) = nQ n rs gs ls qs js vs tk m ++ [fop .add .f32 (qs.getD m 0) (fop .mul .f32 tk ((xs1 n rs gs ls qs js vs tk).getD m (0, 0)).1)] := by
  simp [nQ, List.range_succ]
theorem sqL_zero (n : Nat) (rs ls : List Nat) (tk : Nat) : sqL n rs ls tk 0 = [] := rfl
theorem rtL_zero (n : Nat) (gs ls qs js vs : List Nat) (tk : Nat) : rtL n gs ls qs js vs tk 0 = [] := rfl
theorem nI_zero (n : Nat) (rs gs ls qs js vs : List Nat) (tk : Nat) : nI n rs gs ls qs js vs tk 0 = [] := rfl
theorem nQ_zero (n : Nat) (rs gs ls qs js vs : List Nat) (tk : Nat) : nQ n rs gs ls qs js vs tk 0 = [] := rfl
theorem bV_eq (n : Nat) (gs ls qs js vs : List Nat) (tk i : Nat) : bV n gs ls qs js vs tk i = (fop .add .f32 (sI n ls js i n) (fop .mul .f32 tk (fop .sub .f32 (vs.getD i 0) (fop .mul .f32 (gs.getD i 0) (qs.getD i 0)))), 0) := rfl
theorem xs1_length (n : Nat) (rs gs ls qs js vs : List Nat) (tk : Nat) : (xs1 n rs gs ls qs js vs tk).length = n := solC_length _ _ _
theorem sI_succ (n : Nat) (ls js : List Nat) (i j : Nat) : sI n ls js i (j + 1) = fop .add .f32 (sI n ls js i j) (fop .mul .f32 (ls.getD (i * n + j) 0) (js.getD j 0)) := rfl
theorem sI_zero (n : Nat) (ls js : List Nat) (i : Nat) : sI n ls js i 0 = 0 := rfl
theorem mA_at {n i : Nat} (rs ls : List Nat) (tk : Nat) : mA n rs ls tk i i = (fop .add .f32 (ls.getD (i * n + i) 0) (fop .mul .f32 tk (rs.getD i 0)), 0) := by simp [mA]
theorem mA_eq {n i j : Nat} (rs ls : List Nat) (tk : Nat) (h : i = j) : mA n rs ls tk i j = (fop .add .f32 (ls.getD (i * n + j) 0) (fop .mul .f32 tk (rs.getD i 0)), 0) := by simp [mA, h]
theorem mA_off {n i j : Nat} (rs ls : List Nat) (tk : Nat) (h : i ≠ j) : mA n rs ls tk i j = (ls.getD (i * n + j) 0, 0) := by simp [mA, h]
/-- Ticks, one after another: charges and currents. -/
def tks (n : Nat) (rs gs ls vs : List Nat) (tk : Nat) (s : List Nat × List Nat) : Nat → List Nat × List Nat
  | 0 => s
  | k + 1 => let t := tks n rs gs ls vs tk s k; (nQ n rs gs ls t.1 t.2 vs tk n, nI n rs gs ls t.1 t.2 vs tk n)
theorem tks_zero (n : Nat) (rs gs ls vs : List Nat) (tk : Nat) (s : List Nat × List Nat) : tks n rs gs ls vs tk s 0 = s := rfl
theorem tks_succ (n : Nat) (rs gs ls vs : List Nat) (tk : Nat) (s : List Nat × List Nat) (k : Nat) : tks n rs gs ls vs tk s (k + 1) = (nQ n rs gs ls (tks n rs gs ls vs tk s k).1 (tks n rs gs ls vs tk s k).2 vs tk n, nI n rs gs ls (tks n rs gs ls vs tk s k).1 (tks n rs gs ls vs tk s k).2 vs tk n) := rfl
theorem tks_len {n : Nat} {rs gs ls vs : List Nat} {tk : Nat} {s : List Nat × List Nat} (h1 : s.1.length = n) (h2 : s.2.length = n) : ∀ k, (tks n rs gs ls vs tk s k).1.length = n ∧ (tks n rs gs ls vs tk s k).2.length = n
  | 0 => ⟨h1, h2⟩
  | _ + 1 => ⟨nQ_length .., nI_length ..⟩
/-- The first current behind each tick. -/
def fst0 (n : Nat) (rs gs ls vs : List Nat) (tk : Nat) (s : List Nat × List Nat) (k : Nat) : List Nat := (List.range k).map fun i => (tks n rs gs ls vs tk s (i + 1)).2.getD 0 0
theorem fst0_zero (n : Nat) (rs gs ls vs : List Nat) (tk : Nat) (s : List Nat × List Nat) : fst0 n rs gs ls vs tk s 0 = [] := rfl
theorem fst0_length (n : Nat) (rs gs ls vs : List Nat) (tk : Nat) (s : List Nat × List Nat) (k : Nat) : (fst0 n rs gs ls vs tk s k).length = k := by simp [fst0]
theorem fst0_succ (n : Nat) (rs gs ls vs : List Nat) (tk : Nat) (s : List Nat × List Nat) (k : Nat) : fst0 n rs gs ls vs tk s (k + 1) = fst0 n rs gs ls vs tk s k ++ [(tks n rs gs ls vs tk s (k + 1)).2.getD 0 0] := by simp [fst0, List.range_succ]
theorem fst0_get {n i k : Nat} (rs gs ls vs : List Nat) (tk : Nat) (s : List Nat × List Nat) (h : i < k) : (fst0 n rs gs ls vs tk s k).getD i 0 = (tks n rs gs ls vs tk s (i + 1)).2.getD 0 0 := by simp [fst0, List.getD, h]
/-- The energy of loops. -/
def eT (n : Nat) (ls js : List Nat) (i j : Nat) : Nat := fop .mul .f32 (fop .mul .f32 (fop .mul .f32 1056964608 (ls.getD (i * n + j) 0)) (js.getD i 0)) (js.getD j 0)
def eI (n : Nat) (ls js : List Nat) (i s : Nat) : Nat → Nat
  | 0 => s
  | j + 1 => fop .add .f32 (eI n ls js i s j) (eT n ls js i j)
def eO (n : Nat) (ls js : List Nat) : Nat → Nat
  | 0 => 0
  | i + 1 => eI n ls js i (eO n ls js i) n
def eG (gs qs : List Nat) (s : Nat) : Nat → Nat
  | 0 => s
  | i + 1 => fop .add .f32 (eG gs qs s i) (fop .mul .f32 (fop .mul .f32 (fop .mul .f32 1056964608 (gs.getD i 0)) (qs.getD i 0)) (qs.getD i 0))
theorem eT_is (n : Nat) (ls js : List Nat) (i j : Nat) : eT n ls js i j = fop .mul .f32 (fop .mul .f32 (fop .mul .f32 1056964608 (ls.getD (i * n + j) 0)) (js.getD i 0)) (js.getD j 0) := rfl
theorem eI_zero (n : Nat) (ls js : List Nat) (i s : Nat) : eI n ls js i s 0 = s := rfl
theorem eI_succ (n : Nat) (ls js : List Nat) (i s j : Nat) : eI n ls js i s (j + 1) = fop .add .f32 (eI n ls js i s j) (eT n ls js i j) := rfl
theorem eO_zero (n : Nat) (ls js : List Nat) : eO n ls js 0 = 0 := rfl
theorem eO_succ (n : Nat) (ls js : List Nat) (i : Nat) : eO n ls js (i + 1) = eI n ls js i (eO n ls js i) n := rfl
theorem eG_zero (gs qs : List Nat) (s : Nat) : eG gs qs s 0 = s := rfl
theorem eG_succ (gs qs : List Nat) (s i : Nat) : eG gs qs s (i + 1) = fop .add .f32 (eG gs qs s i) (fop .mul .f32 (fop .mul .f32 (fop .mul .f32 1056964608 (gs.getD i 0)) (qs.getD i 0)) (qs.getD i 0)) := rfl
theorem idx_in {n i j : Nat} (hi : i < n) (hj : j < n) : i * n + j < n * n := by
  have := Nat.mul_le_mul_right n (show i + 1 ≤ n from hi)
  rw [Nat.add_mul, Nat.one_mul] at this
  omega
end Go.Proofs.Ytpoigbpaeniikaa

