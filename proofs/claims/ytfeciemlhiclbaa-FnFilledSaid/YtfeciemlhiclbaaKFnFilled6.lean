/- Own texts of this claim, merged: Ne, Ng, Cx, Nf, Cy, Tk, Qv, Qw, Qx, Sv, Sr, Dsn, Sg, Sh, Ff, Fg, Fh, Fa, Fi, Fj, Fk, Fl, Fb, Fc, Fd, Fe, Fm, Fn, Fo, Fp, Fq, Fr, We, Fs, Ft. -/

import Derived.Test.YtfeciemlhiclbaaKFnFilled5
namespace Go.Proofs.Ytfeciemlhiclbaa
open Go.RowKit

/-- n steps of a grid are a number of double precision. -/
theorem er_rep64 {n c : Nat} (h : n ≤ 2 ^ 53) (hc : c ≤ 1900) : ∃ r, r < FloatKind.f64.format.infRung ∧ units FloatKind.f64.format r = n * 2 ^ c := by
  have hb : FloatKind.f64.format.binade = 2 ^ 52 := by decide
  have hi : FloatKind.f64.format.infRung = 2047 * 2 ^ 52 := by decide
  by_cases h0 : n < 2 ^ 53
  · by_cases h1 : n = 0
    · subst h1
      exact ⟨0, by decide, by rw [(units_zero _).2 rfl, Nat.zero_mul]⟩
    have hl : n.log2 ≤ 52 := by have := (Nat.log2_lt h1).2 h0; omega
    have g1 := Nat.log2_self_le h1
    have g2 : n < 2 ^ (n.log2 + 1) := Nat.lt_log2_self
    -- shift left until 24 bits are there, or until the grid is the least one
    obtain ⟨d, hd, hdc⟩ : ∃ d, d ≤ c ∧ (d = c ∧ n * 2 ^ d < 2 ^ 53 ∨ 2 ^ 52 ≤ n * 2 ^ d ∧ n * 2 ^ d < 2 ^ 53) := by
      by_cases hcl : c ≤ 52 - n.log2
      · refine ⟨c, Nat.le_refl _, .inl ⟨rfl, ?_⟩⟩
        calc n * 2 ^ c < 2 ^ (n.log2 + 1) * 2 ^ c := Nat.mul_lt_mul_of_pos_right g2 (pow_pos' _)
          _ = 2 ^ (n.log2 + 1 + c) := by rw [← Nat.pow_add]
          _ ≤ 2 ^ 53 := Nat.pow_le_pow_right (by decide) (by omega)
      · refine ⟨52 - n.log2, by omega, .inr ⟨?_, ?_⟩⟩
        · calc 2 ^ 52 = 2 ^ n.log2 * 2 ^ (52 - n.log2) := by rw [← Nat.pow_add]; congr 1; omega
            _ ≤ _ := Nat.mul_le_mul_right _ g1
        · calc n * 2 ^ (52 - n.log2) < 2 ^ (n.log2 + 1) * 2 ^ (52 - n.log2) := Nat.mul_lt_mul_of_pos_right g2 (pow_pos' _)
            _ = 2 ^ 53 := by rw [← Nat.pow_add]; congr 1; omega
    have hmul : n * 2 ^ c = n * 2 ^ d * 2 ^ (c - d) := by rw [Nat.mul_assoc, ← Nat.pow_add]; congr 2; omega
    rw [hmul]
    generalize n * 2 ^ d = m at hdc
    by_cases hm : m < 2 ^ 52
    · have hd2 : d = c := by rcases hdc with h2 | h2 <;> omega
      refine ⟨m, by rw [hi]; omega, ?_⟩
      unfold units
      rw [hb, if_pos hm, hd2, Nat.sub_self, Nat.pow_zero, Nat.mul_one]
    · have hm2 : m < 2 ^ 53 := by rcases hdc with h2 | h2 <;> omega
      refine ⟨(c - d + 1) * 2 ^ 52 + (m - 2 ^ 52), by rw [hi]; omega, ?_⟩
      unfold units
      rw [hb, if_neg (by omega)]
      have e1 : ((c - d + 1) * 2 ^ 52 + (m - 2 ^ 52)) % 2 ^ 52 = m - 2 ^ 52 := by
        rw [Nat.add_comm, Nat.add_mul_mod_self_right, Nat.mod_eq_of_lt (by omega)]
      have e2 : ((c - d + 1) * 2 ^ 52 + (m - 2 ^ 52)) / 2 ^ 52 = c - d + 1 := by
        rw [Nat.add_comm, Nat.add_mul_div_right _ _ (by decide), Nat.div_eq_of_lt (by omega), Nat.zero_add]
      rw [e1, e2, show 2 ^ 52 + (m - 2 ^ 52) = m by omega, Nat.add_sub_cancel]
  · obtain rfl : n = 2 ^ 53 := by omega
    refine ⟨(c + 2) * 2 ^ 52, by rw [hi]; omega, ?_⟩
    unfold units
    rw [hb, if_neg (by omega), Nat.mul_mod_left, Nat.mul_div_cancel _ (by decide), Nat.add_zero, show c + 2 - 1 = 1 + c by omega, Nat.pow_add, ← Nat.mul_assoc]

theorem lp64 : FloatKind.f64.format.leastPlace = -1074 := by decide
/-- Narrowed: not farther than a step of the grid. -/
theorem er_narrow {y : Nat} {V : Int} {c : Nat} (hc : c ≤ 200) (hy : rng FloatKind.f64.format y < FloatKind.f64.format.infRung) (hV : sval FloatKind.f64.format y = V) (h : V.natAbs ≤ 2 ^ 24 * 2 ^ c * 2 ^ 925) :
    fover .f64 .f32 y = false ∧ ∃ Z, apx (fconv .f64 .f32 y) Z ∧ V - ((2 ^ c * 2 ^ 925 : Nat) : Int) ≤ Z * ((2 ^ 925 : Nat) : Int) ∧ Z * ((2 ^ 925 : Nat) : Int) ≤ V + ((2 ^ c * 2 ^ 925 : Nat) : Int) := by
  obtain ⟨m, e, a1, a2⟩ := read_number FloatKind.f64.format hy
  have hu : units FloatKind.f64.format (rng FloatKind.f64.format y) = V.natAbs := by
    have := congrArg Int.natAbs hV
    unfold sval at this
    split at this <;> simpa using this
  have hs : (sgn FloatKind.f64.format y = true → V ≤ 0) ∧ (sgn FloatKind.f64.format y = false → 0 ≤ V) := by
    have := hV
    unfold sval at this
    constructor <;> intro hs <;> rw [hs] at this <;> simp at this <;> omega
  rw [hu] at a2
  obtain ⟨r, r1, r2, r3, r4⟩ := er_core (sgn FloatKind.f64.format y) (m := m) (a := 925) (b := e) (c := c) (e := FloatKind.f64.format.leastPlace + (e : Int)) hc (by rw [lp64, lp32]; omega) (by rw [a2]; exact h)
  rw [a2] at r3 r4
  have hd : FloatKind.f64.decode y = .number (sgn FloatKind.f64.format y) m (FloatKind.f64.format.leastPlace + (e : Int)) := a1
  have he : FloatKind.f32.encode (.number (sgn FloatKind.f64.format y) m (FloatKind.f64.format.leastPlace + (e : Int))) = FloatKind.f32.format.word (sgn FloatKind.f64.format y) r := r1
  have hw := er_word (sgn FloatKind.f64.format y) r2
  refine ⟨?_, (if sgn FloatKind.f64.format y then -(units FloatKind.f32.format r : Int) else (units FloatKind.f32.format r : Int)), ?_, ?_⟩
  · unfold fover
    rw [if_neg (by decide), hd]
    simp only [he]
    obtain ⟨m', e', b1, _⟩ := read_number FloatKind.f32.format hw.2.1
    have b2 : FloatKind.f32.decode (FloatKind.f32.format.word (sgn FloatKind.f64.format y) r) = _ := b1
    rw [b2]; rfl
  · unfold fconv
    rw [if_neg (by decide), hd]
    simp only [he]
    exact hw
  · have := er_sign (V := V) rfl hs.1 hs.2 r3 r4
    have e9 : (if sgn FloatKind.f64.format y = true then -(units FloatKind.f32.format r : Int) else (units FloatKind.f32.format r : Int)) * ((2 ^ 925 : Nat) : Int) =
        (if sgn FloatKind.f64.format y = true then -((units FloatKind.f32.format r * 2 ^ 925 : Nat) : Int) else ((units FloatKind.f32.format r * 2 ^ 925 : Nat) : Int)) := by
      split <;> simp only [Int.natCast_mul, Int.neg_mul]
    rw [e9]
    exact this
theorem pow2_is (n : Nat) : pow2 n = 2 ^ n := rfl
/-- The double word x is V units of the least place of doubles. -/
def apd (x : Nat) (V : Int) : Prop := rng FloatKind.f64.format x < FloatKind.f64.format.infRung ∧ sval FloatKind.f64.format x = V
theorem apd_up {x : Nat} {X : Int} (h : apx x X) : apd (up x) (X * ((2 ^ 925 : Nat) : Int)) := by
  obtain ⟨u1, u2, u3⟩ := up_number (x := x) h.2.1
  refine ⟨u2, ?_⟩
  have hk : upK = 2 ^ 925 := (show upK = pow2 925 from rfl).trans (pow2_is 925)
  have e : sval FloatKind.f64.format (up x) = if sgn FloatKind.f32.format x then -((units FloatKind.f32.format (rng FloatKind.f32.format x) * upK : Nat) : Int) else ((units FloatKind.f32.format (rng FloatKind.f32.format x) * upK : Nat) : Int) := by
    show sval Ieee.double (up x) = _
    unfold sval
    rw [u1, u3]; rfl
  rw [e, ← h.2.2, hk]
  unfold sval
  split <;> simp only [Int.natCast_mul, Int.neg_mul]
theorem apd_word (s : Bool) {r : Nat} (hr : r < FloatKind.f64.format.infRung) : apd (FloatKind.f64.format.word s r) (if s then -(units FloatKind.f64.format r : Int) else (units FloatKind.f64.format r : Int)) := by
  obtain ⟨w1, w2⟩ := rng_word .f64 s (Nat.le_of_lt hr)
  refine ⟨by rw [w1]; exact hr, ?_⟩
  unfold sval
  rw [w2, w1]
theorem apd.units {x : Nat} {V : Int} (h : apd x V) : units FloatKind.f64.format (rng FloatKind.f64.format x) = V.natAbs := by
  have := congrArg Int.natAbs h.2
  unfold sval at this
  split at this <;> simpa using this
/-- A zero that is added or taken away changes nothing; nothing less a number, neither. -/
theorem apd_sum0 (t : Bool) {x y : Nat} {V U : Int} (hx : apd x V) (hy : apd y U) {r : Nat} (hr : r < FloatKind.f64.format.infRung) (hu : units FloatKind.f64.format r = (V + (if t then -U else U)).natAbs) :
    apd (((((FloatKind.f64.format.read x).sum (if t then (FloatKind.f64.format.read y).opposite else FloatKind.f64.format.read y)).map FloatKind.f64.format.write).getD (qn .f64))) (V + (if t then -U else U)) := by
  obtain ⟨s, M, q, e1, e2, e3, e4⟩ := sum_units (k := .f64) hx.1 hy.1 t
  rw [hx.2, hy.2] at e2 e3 e4
  generalize V + (if t then -U else U) = W at *
  have hw : (((FloatKind.f64.format.read x).sum (if t then (FloatKind.f64.format.read y).opposite else FloatKind.f64.format.read y)).map FloatKind.f64.format.write).getD (qn .f64) = FloatKind.f64.format.word s r := by
    rw [e1]
    show FloatKind.f64.format.nearest s M _ = _
    refine nearest_units FloatKind.f64.format s (a := 0) (b := q) (Nat.le_of_lt hr) (by omega) ?_
    rw [e2, hu, Nat.pow_zero, Nat.mul_one]
  rw [hw]
  have h9 := apd_word s hr
  refine ⟨h9.1, h9.2.trans ?_⟩
  rw [hu]
  cases s
  · have := e4 rfl
    simp only [Bool.false_eq_true, if_false]
    omega
  · have := e3 rfl
    simp only [if_true]
    omega
theorem apd_sub0 {x y : Nat} {V : Int} (hx : apd x V) (hy : apd y 0) : apd (fop .sub .f64 x y) V := by
  have h := apd_sum0 true hx hy hx.1 (by rw [hx.units]; simp)
  have e : V + (if true = true then -(0 : Int) else 0) = V := by simp
  rw [e] at h
  exact h
def D9 : Nat := 2 ^ 925
theorem D9_is : 2 ^ 925 = D9 := by unfold D9; exact Eq.refl _
theorem er_narrowD {y : Nat} {V : Int} {c : Nat} (hc : c ≤ 200) (hy : apd y V) (h : V.natAbs ≤ 2 ^ 24 * 2 ^ c * D9) :
    fover .f64 .f32 y = false ∧ ∃ Z, apx (fconv .f64 .f32 y) Z ∧ V - ((2 ^ c : Nat) : Int) * (D9 : Int) ≤ Z * (D9 : Int) ∧ Z * (D9 : Int) ≤ V + ((2 ^ c : Nat) : Int) * (D9 : Int) := by
  have h9 := er_narrow (y := y) (V := V) (c := c) hc hy.1 hy.2
  rw [D9_is] at h9
  simp only [Int.natCast_mul] at h9
  exact h9 h
def D7 : Nat := 2 ^ 776
theorem pow_split {p q r : Nat} (h : p = q + r) : (2 : Nat) ^ p = 2 ^ q * 2 ^ r := by rw [h, Nat.pow_add]
end Go.Proofs.Ytfeciemlhiclbaa


namespace Go.Proofs.Ytfeciemlhiclbaa
open Go.RowKit

set_option maxRecDepth 20000
set_option linter.unusedSimpArgs false
/-- Written: not farther than a step of the grid. -/
theorem er_core64 (s : Bool) {m a b c : Nat} {e : Int} (hc : c ≤ 1900) (he : e + a = FloatKind.f64.format.leastPlace + b) (h : m * 2 ^ b ≤ 2 ^ 53 * 2 ^ c * 2 ^ a) :
    ∃ r, FloatKind.f64.format.nearest s m e = FloatKind.f64.format.word s r ∧ r < FloatKind.f64.format.infRung ∧ units FloatKind.f64.format r * 2 ^ a ≤ m * 2 ^ b + 2 ^ c * 2 ^ a ∧ m * 2 ^ b ≤ units FloatKind.f64.format r * 2 ^ a + 2 ^ c * 2 ^ a := by
  have hp : 0 < 2 ^ c * 2 ^ a := Nat.mul_pos (pow_pos' _) (pow_pos' _)
  generalize hG : 2 ^ c * 2 ^ a = G at *
  rw [Nat.mul_assoc, hG] at h
  generalize hN : m * 2 ^ b = N at *
  have hn1 : N / G ≤ 2 ^ 53 := Nat.div_le_of_le_mul (by rw [Nat.mul_comm]; exact h)
  have hdm := Nat.div_add_mod N G
  have hml := Nat.mod_lt N hp
  obtain ⟨r1, a1, a2⟩ := er_rep64 hn1 hc
  obtain ⟨t1, b1, b2, b3⟩ := nearest_ge FloatKind.f64.format s (m := m) (r := r1) (a := a) (b := b) (Nat.le_of_lt a1) he (by rw [a2, Nat.mul_assoc, hG, hN, Nat.mul_comm]; omega)
  -- the upper one
  obtain ⟨r2, c1, c2, c3⟩ : ∃ r2, r2 < FloatKind.f64.format.infRung ∧ N ≤ units FloatKind.f64.format r2 * 2 ^ a ∧ units FloatKind.f64.format r2 * 2 ^ a ≤ N + G := by
    by_cases hz : N % G = 0
    · exact ⟨r1, a1, by rw [a2, Nat.mul_assoc, hG, Nat.mul_comm]; omega, by rw [a2, Nat.mul_assoc, hG, Nat.mul_comm]; omega⟩
    · have hn2 : N / G + 1 ≤ 2 ^ 53 := by
        rcases Nat.lt_or_ge (N / G) (2 ^ 53) with h1 | h1
        · exact h1
        · have : G * (2 ^ 53) ≤ G * (N / G) := Nat.mul_le_mul_left _ h1
          rw [Nat.mul_comm] at this
          omega
      obtain ⟨r2, d1, d2⟩ := er_rep64 hn2 hc
      have e2 : (N / G + 1) * G = G * (N / G) + G := by rw [Nat.add_mul, Nat.one_mul, Nat.mul_comm]
      exact ⟨r2, d1, by rw [d2, Nat.mul_assoc, hG, e2]; omega, by rw [d2, Nat.mul_assoc, hG, e2]; omega⟩
  obtain ⟨t2, d1, d2⟩ := nearest_le FloatKind.f64.format s (m := m) (r := r2) (a := a) (b := b) he (by rw [hN]; exact c2)
  have ht : t1 = t2 := by
    have h1 := rng_word .f64 s (r := t1) b3
    have h2 := rng_word .f64 s (r := t2) (by omega)
    rw [← h1.1, ← h2.1, ← b1, ← d1]
  subst ht
  have m1 := Nat.mul_le_mul_right (2 ^ a) (units_mono FloatKind.f64.format b2)
  have m2 := Nat.mul_le_mul_right (2 ^ a) (units_mono FloatKind.f64.format d2)
  rw [a2, Nat.mul_assoc, hG, Nat.mul_comm] at m1
  exact ⟨t1, b1, by omega, by omega, by omega⟩
theorem apd.sgn {x : Nat} {X : Int} (h : apd x X) : (sgn FloatKind.f64.format x = true → X ≤ 0) ∧ (sgn FloatKind.f64.format x = false → 0 ≤ X) := by
  have := h.2
  unfold sval at this
  constructor <;> intro hs <;> rw [hs] at this <;> simp at this <;> omega
end Go.Proofs.Ytfeciemlhiclbaa


namespace Go.Proofs.Ytfeciemlhiclbaa
open Go.RowKit

section
variable {P : Program} {E : Env} {o : Oper}
end
def pw64 (a b : Nat) : Nat := fop .add .f64 (fop .mul .f64 (up a) (up a)) (fop .mul .f64 (up b) (up b))
def pwr (a b : Nat) : Nat := fconv .f64 .f32 (pw64 a b)
def tc1 (a b c d : Nat) : Nat := fop .sub .f64 (fop .mul .f64 (up a) (up c)) (fop .mul .f64 (up b) (up d))
def tc2 (a b c d : Nat) : Nat := fop .add .f64 (fop .mul .f64 (up a) (up d)) (fop .mul .f64 (up b) (up c))
def oc1 (a b c d : Nat) : Nat := fop .quo .f64 (fop .sub .f64 (fop .mul .f64 (up a) (up c)) (fop .mul .f64 (up b) (fneg .f64 (up d)))) (pw64 c d)
def oc2 (a b c d : Nat) : Nat := fop .quo .f64 (fop .add .f64 (fop .mul .f64 (up a) (fneg .f64 (up d))) (fop .mul .f64 (up b) (up c))) (pw64 c d)
end Go.Proofs.Ytfeciemlhiclbaa


namespace Go.Proofs.Ytfeciemlhiclbaa
open Go.RowKit

section
variable {a b c d : Nat} {A C : Int}
end
end Go.Proofs.Ytfeciemlhiclbaa


namespace Go.Proofs.Ytfeciemlhiclbaa
open Go.RowKit

def cl (xs : List (Nat × Nat)) : List Value := xs.map fun p => Value.complex .f32 p.1 p.2
def crents (t : TypeId) (f : Nat → Option Addr × Nat) (xss : List (List (Nat × Nat))) : List Ent := (List.range xss.length).map fun i => ⟨(f i).1, cl (xss.getD i []), (f i).2 * 1, t⟩
theorem crents_mem {t : TypeId} {f : Nat → Option Addr × Nat} {xss : List (List (Nat × Nat))} {i : Nat} (h : i < xss.length) : (⟨(f i).1, cl (xss.getD i []), (f i).2 * 1, t⟩ : Ent) ∈ crents t f xss := by
  unfold crents
  exact List.mem_map.2 ⟨i, by simpa using h, rfl⟩
/-- Each row's cells lie where its header says. -/
def CRws (w : World) (f : Nat → Option Addr × Nat) (xss : List (List (Nat × Nat))) : Prop := ∀ i, i < xss.length → Cl w (f i).1 (cl (xss.getD i []))
theorem CRws.below {w w' : World} {f : Nat → Option Addr × Nat} {xss : List (List (Nat × Nat))} (h : CRws w f xss) (hb : Below w.heap.size w w') : CRws w' f xss := fun i hi => (h i hi).below hb
theorem CRws.root {w0 w : World} {O : List Ent} {f : Nat → Option Addr × Nat} {xss : List (List (Nat × Nat))} (h : CRws w0 f xss) (hw : Hp w0 O w) : CRws w f xss := h.below hw.below
inductive CRowsIn : List Ent → TypeId → (Nat → Option Addr × Nat) → List (List (Nat × Nat)) → Prop
  | here {t : TypeId} {f : Nat → Option Addr × Nat} {xss : List (List (Nat × Nat))} {O : List Ent} : CRowsIn (crents t f xss ++ O) t f xss
  | last {t : TypeId} {f : Nat → Option Addr × Nat} {xss : List (List (Nat × Nat))} : CRowsIn (crents t f xss) t f xss
  | there {t : TypeId} {f : Nat → Option Addr × Nat} {xss : List (List (Nat × Nat))} {e : Ent} {O : List Ent} : CRowsIn O t f xss → CRowsIn (e :: O) t f xss
  | thereS {t : TypeId} {f : Nat → Option Addr × Nat} {xss : List (List (Nat × Nat))} {S O : List Ent} : CRowsIn O t f xss → CRowsIn (S ++ O) t f xss
theorem CRowsIn.mem {O : List Ent} {t : TypeId} {f : Nat → Option Addr × Nat} {xss : List (List (Nat × Nat))} (h : CRowsIn O t f xss) : ∀ i, i < xss.length → (⟨(f i).1, cl (xss.getD i []), (f i).2 * 1, t⟩ : Ent) ∈ O := by
  induction h with
  | here => exact fun i hi => List.mem_append_left _ (crents_mem hi)
  | last => exact fun i hi => crents_mem hi
  | there _ ih => exact fun i hi => List.mem_cons_of_mem _ (ih i hi)
  | thereS _ ih => exact fun i hi => List.mem_append_right _ (ih i hi)
theorem CRws.own {w0 w : World} {O : List Ent} {t : TypeId} {f : Nat → Option Addr × Nat} {xss : List (List (Nat × Nat))} (h : CRowsIn O t f xss) (hw : Hp w0 O w) : CRws w f xss := fun i hi => Sees.own (h.mem i hi) w hw
/-! ### one row is taken out, and put back -/
end Go.Proofs.Ytfeciemlhiclbaa


namespace Go.Proofs.Ytfeciemlhiclbaa
open Go.RowKit

abbrev CP := Nat × Nat
def cT (p q : CP) : CP := (fconv .f64 .f32 (tc1 p.1 p.2 q.1 q.2), fconv .f64 .f32 (tc2 p.1 p.2 q.1 q.2))
def cO (p q : CP) : CP := (fconv .f64 .f32 (oc1 p.1 p.2 q.1 q.2), fconv .f64 .f32 (oc2 p.1 p.2 q.1 q.2))
def cM (p q : CP) : CP := (fop .sub .f32 p.1 q.1, fop .sub .f32 p.2 q.2)
abbrev tOk (p q : CP) : Prop := fover .f64 .f32 (tc1 p.1 p.2 q.1 q.2) = false ∧ fover .f64 .f32 (tc2 p.1 p.2 q.1 q.2) = false
abbrev oOk (p q : CP) : Prop := fover .f64 .f32 (oc1 p.1 p.2 q.1 q.2) = false ∧ fover .f64 .f32 (oc2 p.1 p.2 q.1 q.2) = false
def EF (A : Nat → Nat → CP) : Nat → Nat → Nat → CP
  | 0, i, j => A i j
  | k + 1, i, j => if k < i ∧ k < j then cM (EF A k i j) (cT (cO (EF A k i k) (EF A k k k)) (EF A k k j)) else EF A k i j
def XF (A : Nat → Nat → CP) (b : Nat → CP) : Nat → Nat → CP
  | 0, i => b i
  | k + 1, i => if k < i then cM (XF A b k i) (cT (cO (EF A k i k) (EF A k k k)) (XF A b k k)) else XF A b k i
def BS (U : Nat → Nat → CP) (Y : Nat → CP) (t : Nat) : Nat → CP
  | 0 => Y t
  | e + 1 => cM (BS U Y t e) (cT (U t (t + 1 + e)) (Y (t + 1 + e)))
def BF (n : Nat) (U : Nat → Nat → CP) (y : Nat → CP) : Nat → Nat → CP
  | 0, t => y t
  | d + 1, t => if t + 1 + d = n then cO (BS U (BF n U y d) t d) (U t t) else BF n U y d t
structure SOk (n : Nat) (A : Nat → Nat → CP) (b : Nat → CP) : Prop where
  piv : ∀ k r, k ≤ r → r < n → fover .f64 .f32 (pw64 (EF A k r k).1 (EF A k r k).2) = false
  pgt : ∀ k r, k < r → r < n → fcmp .gtr .f32 (pwr (EF A k r k).1 (EF A k r k).2) (pwr (EF A k k k).1 (EF A k k k).2) = false
  peq : ∀ k, k < n → fcmp .eql .f32 (pwr (EF A k k k).1 (EF A k k k).2) (pwr (EF A k k k).1 (EF A k k k).2) = true
  pos : ∀ k, k < n → fcmp .gtr .f32 (pwr (EF A k k k).1 (EF A k k k).2) 0 = true
  elo : ∀ k r, k < r → r < n → oOk (EF A k r k) (EF A k k k)
  elt : ∀ k r c, k < r → r < n → k < c → c < n → tOk (cO (EF A k r k) (EF A k k k)) (EF A k k c)
  elx : ∀ k r, k < r → r < n → tOk (cO (EF A k r k) (EF A k k k)) (XF A b k k)
  bkt : ∀ t d e, t + 1 + d = n → e < d → tOk (EF A n t (t + 1 + e)) (BF n (EF A n) (XF A b n) d (t + 1 + e))
  bko : ∀ t d, t + 1 + d = n → oOk (BS (EF A n) (BF n (EF A n) (XF A b n) d) t d) (EF A n t t)

theorem csetD {α : Type} {xs : List α} {k i : Nat} {v d : α} (h : k < xs.length) : (xs.set k v).getD i d = if i = k then v else xs.getD i d := by
  by_cases e : i = k
  · subst e; simp [List.getD, h]
  · rw [if_neg e]; simp [List.getD, List.getElem?_set_ne (Ne.symm e)]
section
variable {P : Program} {w0 : World} {O : List Ent} {E : Env} {o : Oper}
end
/-- n rows of n numbers. -/
def Sq (n : Nat) (xss : List (List CP)) : Prop := xss.length = n ∧ ∀ i, i < n → (xss.getD i []).length = n
theorem Sq.set {n k : Nat} {xss : List (List CP)} {row : List CP} (h : Sq n xss) (hk : k < n) (hr : row.length = n) : Sq n (xss.set k row) := by
  refine ⟨by rw [List.length_set]; exact h.1, fun i hi => ?_⟩
  rw [csetD (by rw [h.1]; exact hk)]
  by_cases e : i = k
  · rw [if_pos e]; exact hr
  · rw [if_neg e]; exact h.2 i hi
end Go.Proofs.Ytfeciemlhiclbaa


namespace Go.Proofs.Ytfeciemlhiclbaa
open Go.RowKit

def WW : Rat := ((16777216 * UU : Int) : Rat)
theorem WW_is : WW = 16777216 * ((UU : Int) : Rat) := by unfold WW; rw [Rat.intCast_mul]; rfl
theorem WW_pos : 0 < WW := by
  unfold WW
  have := UU_pos
  have h : (0 : Int) < 16777216 * UU := by omega
  have h2 := (Rat.intCast_lt_intCast (a := 0) (b := 16777216 * UU)).2 h
  exact h2
def qv (x : Nat) (q : Rat) : Prop := ∃ X : Int, apx x X ∧ (X : Rat) = q * WW
theorem i_of_q {A B : Int} {a b : Rat} (hA : (A : Rat) = a * WW) (hB : (B : Rat) = b * WW) (h : a ≤ b) : A ≤ B := by
  rw [← Rat.intCast_le_intCast, hA, hB]
  exact Rat.mul_le_mul_of_nonneg_right h (Rat.le_of_lt WW_pos)
theorem q_of_i {A B : Int} {a b : Rat} (hA : (A : Rat) = a * WW) (hB : (B : Rat) = b * WW) (h : A ≤ B) : a ≤ b := by
  rw [← Rat.intCast_le_intCast, hA, hB] at h
  exact Rat.le_of_mul_le_mul_right h WW_pos
theorem WW2_pos : 0 < WW * WW := Rat.mul_pos WW_pos WW_pos
theorem i_of_q2 {A B : Int} {a b : Rat} (hA : (A : Rat) = a * (WW * WW)) (hB : (B : Rat) = b * (WW * WW)) (h : a ≤ b) : A ≤ B := by
  rw [← Rat.intCast_le_intCast, hA, hB]
  exact Rat.mul_le_mul_of_nonneg_right h (Rat.le_of_lt WW2_pos)
theorem q_of_i2 {A B : Int} {a b : Rat} (hA : (A : Rat) = a * (WW * WW)) (hB : (B : Rat) = b * (WW * WW)) (h : A ≤ B) : a ≤ b := by
  rw [← Rat.intCast_le_intCast, hA, hB] at h
  exact Rat.le_of_mul_le_mul_right h WW2_pos
/-- K is a power of two, not too great. -/
def pw2 (k : Nat) (K : Rat) : Prop := K = ((2 ^ k : Nat) : Rat)
theorem pw2_int {k : Nat} {K : Rat} (h : pw2 k K) : ∃ J : Int, ((2 ^ k : Nat) : Int) = J ∧ (J : Rat) = K := ⟨_, rfl, by rw [h]; rfl⟩
section
variable {x y : Nat} {p q K : Rat} {k : Nat}
theorem qv_add (hK : pw2 k K) (hk : k ≤ 70) (hx : qv x p) (hy : qv y q) (h1 : -K ≤ p + q) (h2 : p + q ≤ K) : ∃ z, qv (fop .add .f32 x y) z ∧ p + q - K / 16777216 ≤ z ∧ z ≤ p + q + K / 16777216 := by
  obtain ⟨X, hX, eX⟩ := hx
  obtain ⟨Y, hY, eY⟩ := hy
  obtain ⟨J, hJ, rfl⟩ := pw2_int hK
  have hw := WW_is
  have hp := WW_pos
  obtain ⟨Z, z1, z2, z3⟩ := er_add k hJ hk hX hY
    (i_of_q (a := -(J : Rat)) (b := p + q) (by push_cast; grind) (by push_cast; grind) h1) (i_of_q (a := p + q) (b := (J : Rat)) (by push_cast; grind) (by push_cast; grind) h2)
  refine ⟨(Z : Rat) / WW, ⟨Z, z1, by grind⟩, q_of_i (B := Z) ?_ (by grind) z2, q_of_i (A := Z) (by grind) ?_ z3⟩
  · push_cast; grind
  · push_cast; grind
theorem qv_sub (hK : pw2 k K) (hk : k ≤ 70) (hx : qv x p) (hy : qv y q) (h1 : -K ≤ p - q) (h2 : p - q ≤ K) : ∃ z, qv (fop .sub .f32 x y) z ∧ p - q - K / 16777216 ≤ z ∧ z ≤ p - q + K / 16777216 := by
  obtain ⟨X, hX, eX⟩ := hx
  obtain ⟨Y, hY, eY⟩ := hy
  obtain ⟨J, hJ, rfl⟩ := pw2_int hK
  have hw := WW_is
  have hp := WW_pos
  obtain ⟨Z, z1, z2, z3⟩ := er_sub k hJ hk hX hY
    (i_of_q (a := -(J : Rat)) (b := p - q) (by push_cast; grind) (by push_cast; grind) h1) (i_of_q (a := p - q) (b := (J : Rat)) (by push_cast; grind) (by push_cast; grind) h2)
  refine ⟨(Z : Rat) / WW, ⟨Z, z1, by grind⟩, q_of_i (B := Z) ?_ (by grind) z2, q_of_i (A := Z) (by grind) ?_ z3⟩
  · push_cast; grind
  · push_cast; grind
theorem qv_mul (hK : pw2 k K) (hk : k ≤ 70) (hx : qv x p) (hy : qv y q) (h1 : -K ≤ p * q) (h2 : p * q ≤ K) : ∃ z, qv (fop .mul .f32 x y) z ∧ p * q - K / 16777216 ≤ z ∧ z ≤ p * q + K / 16777216 := by
  obtain ⟨X, hX, eX⟩ := hx
  obtain ⟨Y, hY, eY⟩ := hy
  obtain ⟨J, hJ, rfl⟩ := pw2_int hK
  have hw := WW_is
  have hp := WW_pos
  obtain ⟨Z, z1, z2, z3⟩ := er_mul k hJ hk hX hY
    (i_of_q2 (a := -(J : Rat)) (b := p * q) (by push_cast; grind) (by push_cast; grind) h1) (i_of_q2 (a := p * q) (b := (J : Rat)) (by push_cast; grind) (by push_cast; grind) h2)
  refine ⟨(Z : Rat) / WW, ⟨Z, z1, by grind⟩, q_of_i2 ?_ ?_ z2, q_of_i2 ?_ ?_ z3⟩
  · push_cast; grind
  · push_cast; grind
  · push_cast; grind
  · push_cast; grind
end
end Go.Proofs.Ytfeciemlhiclbaa


namespace Go.Proofs.Ytfeciemlhiclbaa
open Go.RowKit

def W9 : Rat := WW * ((D9 : Nat) : Rat)
theorem D9_pos : 0 < D9 := by rw [← D9_is]; exact pow_pos' 925
attribute [local irreducible] D9 D7 UU
theorem D9r_pos : (0 : Rat) < ((D9 : Nat) : Rat) := by
  have := (Rat.intCast_lt_intCast (a := 0) (b := ((D9 : Nat) : Int))).2 (by have := D9_pos; omega)
  exact this
theorem W9_pos : 0 < W9 := Rat.mul_pos WW_pos D9r_pos
theorem WW_149 : WW = ((2 ^ 149 : Nat) : Rat) := by
  unfold WW
  rw [BB_is]; rfl
theorem W9_pow {P : Nat} (hP : P = 1074) : W9 = ((2 ^ P : Nat) : Rat) := by
  have h := pow_split (p := P) (q := 149) (r := 925) (by omega)
  rw [D9_is] at h
  unfold W9
  rw [WW_149, ← Rat.natCast_mul, h]
def dv (x : Nat) (q : Rat) : Prop := ∃ V : Int, apd x V ∧ (V : Rat) = q * W9
section
variable {x y : Nat} {p q K : Rat} {k : Nat}
theorem dv_sub0 (hx : dv x p) (hy : apd y 0) : dv (fop .sub .f64 x y) p := by
  obtain ⟨X, hX, eX⟩ := hx
  exact ⟨X, apd_sub0 hX hy, eX⟩
theorem abs_int {X : Int} {m c : Rat} (h1 : -c ≤ (X : Rat)) (h2 : (X : Rat) ≤ c) (hm : c = m) : ((X.natAbs : Nat) : Rat) ≤ m := by
  subst hm
  rcases Int.natAbs_eq X with h | h
  · have : ((X.natAbs : Nat) : Rat) = ((X : Int) : Rat) := by
      have := congrArg (fun z : Int => (z : Rat)) h
      exact this.symm
    rw [this]; exact h2
  · have : ((X.natAbs : Nat) : Rat) = -((X : Int) : Rat) := by
      have h3 : ((X.natAbs : Nat) : Int) = -X := by omega
      have := congrArg (fun z : Int => (z : Rat)) h3
      simp only [Rat.intCast_neg] at this
      exact this
    rw [this]; grind
theorem nat_of_q {a b : Nat} (h : (a : Rat) ≤ (b : Rat)) : a ≤ b := by
  have := (Rat.intCast_le_intCast (a := (a : Int)) (b := (b : Int))).1 h
  omega
theorem dv_narrow (hK : pw2 k K) (hk : k ≤ 70) (hx : dv x p) (h1 : -K ≤ p) (h2 : p ≤ K) : fover .f64 .f32 x = false ∧ ∃ z, qv (fconv .f64 .f32 x) z ∧ p - K / 16777216 ≤ z ∧ z ≤ p + K / 16777216 := by
  obtain ⟨X, hX, eX⟩ := hx
  have hp := W9_pos
  have hq := D9r_pos
  have e24 : ((2 ^ 24 * 2 ^ (125 + k) : Nat) : Rat) = K * WW := by
    rw [hK, WW_149, ← Rat.natCast_mul, ← Nat.pow_add, ← Nat.pow_add]
    congr 2; omega
  have e25 : ((2 ^ (125 + k) : Nat) : Rat) = K * WW / 16777216 := by
    rw [← e24, Rat.natCast_mul]
    have : ((2 ^ 24 : Nat) : Rat) = 16777216 := by rfl
    rw [this]; grind
  obtain ⟨a1, Z, a2, a3, a4⟩ := er_narrowD (c := 125 + k) (by omega) hX (nat_of_q (by
    rw [Rat.natCast_mul, e24]
    refine abs_int (c := K * W9) ?_ ?_ (by unfold W9; grind)
    · rw [eX]
      have := Rat.mul_le_mul_of_nonneg_right h1 (Rat.le_of_lt hp)
      grind
    · rw [eX]
      exact Rat.mul_le_mul_of_nonneg_right h2 (Rat.le_of_lt hp)))
  obtain ⟨z, hz⟩ : ∃ z : Rat, (Z : Rat) = z * WW := ⟨(Z : Rat) / WW, by have := WW_pos; grind⟩
  refine ⟨a1, z, ⟨Z, a2, hz⟩, ?_, ?_⟩
  · have := (Rat.intCast_le_intCast).2 a3
    simp only [Rat.intCast_sub, Rat.intCast_mul, Rat.intCast_natCast] at this
    rw [e25, eX, hz] at this
    unfold W9 at this hp
    have hw := WW_pos
    refine Rat.le_of_mul_le_mul_right (c := WW * ((D9 : Nat) : Rat)) ?_ hp
    generalize ((D9 : Nat) : Rat) = d at *
    grind
  · have := (Rat.intCast_le_intCast).2 a4
    simp only [Rat.intCast_add, Rat.intCast_mul, Rat.intCast_natCast] at this
    rw [e25, eX, hz] at this
    unfold W9 at this hp
    have hw := WW_pos
    refine Rat.le_of_mul_le_mul_right (c := WW * ((D9 : Nat) : Rat)) ?_ hp
    generalize ((D9 : Nat) : Rat) = d at *
    grind
end
end Go.Proofs.Ytfeciemlhiclbaa


namespace Go.Proofs.Ytfeciemlhiclbaa
open Go.RowKit

attribute [local irreducible] D9 D7 UU WW W9
section
variable {p q : CP} {a b K : Rat} {k : Nat}
end
/-! ### comparisons -/
section
variable {x y : Nat} {p q : Rat}
theorem qv_cmp {X Y : Int} (hx : apx x X) (hy : apx y Y) : FloatKind.f32.format.order x y = some (compare X Y) := by
  rw [order_number hx.2.1 hy.2.1, hx.2.2, hy.2.2]
theorem qv_gt (hx : qv x p) (hy : qv y q) (h : q < p) : fcmp .gtr .f32 x y = true := by
  obtain ⟨X, hX, eX⟩ := hx
  obtain ⟨Y, hY, eY⟩ := hy
  show (FloatKind.f32.format.order x y == some .gt) = true
  have : Y < X := by
    rcases (by omega : Y < X ∨ X ≤ Y) with g | g
    · exact g
    · have := q_of_i eX eY g; grind
  rw [qv_cmp hX hY, Int.compare_eq_gt.2 this]; rfl
theorem qv_ngt (hx : qv x p) (hy : qv y q) (h : p ≤ q) : fcmp .gtr .f32 x y = false := by
  obtain ⟨X, hX, eX⟩ := hx
  obtain ⟨Y, hY, eY⟩ := hy
  show (FloatKind.f32.format.order x y == some .gt) = false
  have := i_of_q eX eY h
  rw [qv_cmp hX hY]
  rcases Int.lt_trichotomy X Y with h | h | h
  · rw [Int.compare_eq_lt.2 h]; rfl
  · rw [compare_eq.2 h]; rfl
  · omega
end
end Go.Proofs.Ytfeciemlhiclbaa


namespace Go.Proofs.Ytfeciemlhiclbaa
open Go.RowKit

attribute [local irreducible] D9 D7 UU WW W9
def Rg (a A : Rat) : Prop := -A ≤ a ∧ a ≤ A
theorem rmul {a b A B : Rat} (h1 : Rg a A) (h2 : Rg b B) : Rg (a * b) (A * B) := by
  obtain ⟨h1, h2'⟩ := h1
  obtain ⟨h3, h4⟩ := h2
  have g1 := Rat.mul_nonneg (show 0 ≤ A - a by grind) (show 0 ≤ B - b by grind)
  have g2 := Rat.mul_nonneg (show 0 ≤ A + a by grind) (show 0 ≤ B + b by grind)
  have g3 := Rat.mul_nonneg (show 0 ≤ A - a by grind) (show 0 ≤ B + b by grind)
  have g4 := Rat.mul_nonneg (show 0 ≤ A + a by grind) (show 0 ≤ B - b by grind)
  exact ⟨by grind, by grind⟩
section
variable {p q : CP} {a b A B S c d u D K : Rat} {k : Nat}
theorem Rg.mono (h : Rg a A) (hAB : A ≤ B) : Rg a B := ⟨by have := h.1; grind, by have := h.2; grind⟩
theorem Rg.one (h : Rg a A) : Rg a (A * 1) := by rw [Rat.mul_one]; exact h
theorem Rg.add (h1 : Rg a A) (h2 : Rg b B) : Rg (a + b) (A + B) := ⟨by have := h1.1; have := h2.1; grind, by have := h1.2; have := h2.2; grind⟩
theorem Rg.sub (h1 : Rg a A) (h2 : Rg b B) : Rg (a - b) (A + B) := ⟨by have := h1.1; have := h2.2; grind, by have := h1.2; have := h2.1; grind⟩
theorem pw2_mul (j : Nat) {J : Rat} (hJ : ((2 ^ j : Nat) : Rat) = J) (h : pw2 k K) : pw2 (k + j) (J * K) := by
  unfold pw2 at *
  rw [h, ← hJ, ← Rat.natCast_mul, ← Nat.pow_add, Nat.add_comm]
theorem pw2_nn (h : pw2 k K) : 0 ≤ K := by rw [h]; exact Rat.natCast_nonneg
end
theorem qv_zero : qv 0 0 := by
  refine ⟨0, ?_, by simp⟩
  refine ⟨by decide, by decide, ?_⟩
  have h : rng FloatKind.f32.format 0 = 0 := by decide
  have h2 : sgn FloatKind.f32.format 0 = false := by decide
  unfold sval
  rw [h, h2, (units_zero FloatKind.f32.format).2 rfl]; rfl
end Go.Proofs.Ytfeciemlhiclbaa


namespace Go.Proofs.Ytfeciemlhiclbaa
open Go.RowKit

set_option maxRecDepth 20000
theorem rootFrom_spec (n : Nat) : ∀ (todo root : Nat), root * root ≤ n → n < (root + 2 ^ todo) * (root + 2 ^ todo) →
    Ieee.Datum.rootFrom n todo root * Ieee.Datum.rootFrom n todo root ≤ n ∧ n < (Ieee.Datum.rootFrom n todo root + 1) * (Ieee.Datum.rootFrom n todo root + 1)
  | 0, root, h1, h2 => by simpa [Ieee.Datum.rootFrom] using And.intro h1 h2
  | todo + 1, root, h1, h2 => by
    simp only [Ieee.Datum.rootFrom, Nat.shiftLeft_eq, Nat.one_mul]
    split
    · rename_i h
      exact rootFrom_spec n todo (root + 2 ^ todo) h (by rw [Nat.add_assoc, ← Nat.mul_two, ← Nat.pow_succ]; exact h2)
    · rename_i h
      exact rootFrom_spec n todo root h1 (by omega)
theorem root_start (n : Nat) : n < (0 + 2 ^ (n.log2 / 2 + 1)) * (0 + 2 ^ (n.log2 / 2 + 1)) := by
  rw [Nat.zero_add, ← Nat.pow_add]
  exact Nat.lt_of_lt_of_le Nat.lt_log2_self (Nat.pow_le_pow_right (by decide) (by omega))
theorem le_of_sq {a b : Nat} (h : a * a ≤ b * b) : a ≤ b := by
  rcases Nat.lt_or_ge b a with h1 | h1
  · exact absurd h (Nat.not_le.2 (Nat.mul_lt_mul_of_lt_of_le h1 (Nat.le_of_lt h1) (by omega)))
  · exact h1
theorem lt_of_sq {a b : Nat} (h : a * a < b * b) : a < b := by
  rcases Nat.lt_or_ge a b with h1 | h1
  · exact h1
  · exact absurd h (Nat.not_lt.2 (Nat.mul_le_mul h1 h1))
/-- The root in doubles, in units: w is the root cut down, u the step behind it. -/
theorem er_sqrt64 {y P c : Nat} {V : Int} (hP : P = 1074) (hc : c ≤ 1900) (hy : apd y V) (hV : 0 ≤ V) (hb : V.natAbs * 2 ^ P ≤ (2 ^ 52 * 2 ^ c) * (2 ^ 52 * 2 ^ c)) :
    ∃ (Z w u : Nat), apd (fsqrt y) (Z : Int) ∧ w * w ≤ V.natAbs * 2 ^ P ∧ V.natAbs * 2 ^ P ≤ (w + u) * (w + u) ∧ Z ≤ w + 2 * 2 ^ c ∧ w + u ≤ Z + 2 * 2 ^ c ∧ (V = 0 → Z = 0) := by
  obtain ⟨m, e, a1, a2⟩ := read_number FloatKind.f64.format hy.1
  rw [hy.units] at a2
  by_cases h0 : m = 0
  · subst h0
    have hv : V.natAbs = 0 := by rw [← a2, Nat.zero_mul]
    have hV0 : V = 0 := by omega
    have hw : fsqrt y = FloatKind.f64.format.word (sgn FloatKind.f64.format y) 0 := by
      have e0 : fsqrt y = (((FloatKind.f64.format.read y).root 54).map FloatKind.f64.format.write).getD (qn .f64) := rfl
      rw [e0, a1]
      simp only [Ieee.Datum.root]
      rw [if_pos trivial, Option.map_some, Option.getD_some]
      show FloatKind.f64.format.nearest _ _ _ = _
      unfold Ieee.Format.nearest
      rw [if_pos rfl]
    refine ⟨0, 0, 0, ?_, Nat.zero_le _, by rw [hv, Nat.zero_mul]; exact Nat.zero_le _, Nat.zero_le _, Nat.zero_le _, fun _ => rfl⟩
    rw [hw]
    have := apd_word (sgn FloatKind.f64.format y) (r := 0) (by decide)
    rw [(units_zero FloatKind.f64.format).2 rfl] at this
    simpa using this
  · have hs : sgn FloatKind.f64.format y = false := by
      cases hs : sgn FloatKind.f64.format y with
      | false => rfl
      | true =>
        have h3 := hy.sgn.1 hs
        have h4 : V.natAbs = 0 := by omega
        rw [h4] at a2
        have h5 := Nat.mul_eq_zero.1 a2
        have h6 := pow_pos' e
        omega
    rw [hs] at a1
    have hm : m.log2 ≤ 52 := by
      have h3 := (decode_double_bound (x := y) (s := false) (m := m) (e := FloatKind.f64.format.leastPlace + (e : Int)) a1).1
      have := (Nat.log2_lt h0).2 h3
      omega
    obtain ⟨more0, hm0⟩ : ∃ k, k = 2 * 54 - m.log2 := ⟨_, rfl⟩
    obtain ⟨more, hmore⟩ : ∃ k, k = more0 + ((FloatKind.f64.format.leastPlace + (e : Int) - (more0 : Int)) % 2).toNat := ⟨_, rfl⟩
    have hmr : more ≤ 109 ∧ more0 ≤ more ∧ (FloatKind.f64.format.leastPlace + (e : Int) - (more : Int)) % 2 = 0 := by omega
    obtain ⟨hmr1, hmr2, hmr3⟩ := hmr
    obtain ⟨n, hn⟩ : ∃ n, n = m * 2 ^ more := ⟨_, rfl⟩
    obtain ⟨w1, w2⟩ := rootFrom_spec n (n.log2 / 2 + 1) 0 (by rw [Nat.zero_mul]; exact Nat.zero_le _) (root_start n)
    obtain ⟨whole, hwh⟩ : ∃ w, w = Ieee.Datum.rootFrom n (n.log2 / 2 + 1) 0 := ⟨_, rfl⟩
    rw [← hwh] at w1 w2
    obtain ⟨bit, hbit⟩ : ∃ b, b = (whole * whole != n).toNat := ⟨_, rfl⟩
    have hb1 : bit ≤ 1 := by rw [hbit]; cases (whole * whole != n) <;> decide
    rw [lp64] at hmr3
    obtain ⟨b, hbb⟩ : ∃ b : Nat, 2 * (b : Int) = 1072 + (e : Int) - (more : Int) := ⟨((1072 + (e : Int) - (more : Int)) / 2).toNat, by omega⟩
    -- in units
    have hu : n * (2 ^ (b + 1) * 2 ^ (b + 1)) = V.natAbs * 2 ^ P := by
      rw [hn, ← a2, Nat.mul_assoc, Nat.mul_assoc, ← Nat.pow_add, ← Nat.pow_add, ← Nat.pow_add]
      exact congrArg (fun k => m * 2 ^ k) (by omega)
    have hW1 : (whole * 2 ^ (b + 1)) * (whole * 2 ^ (b + 1)) ≤ V.natAbs * 2 ^ P := by
      rw [← hu, show (whole * 2 ^ (b + 1)) * (whole * 2 ^ (b + 1)) = whole * whole * (2 ^ (b + 1) * 2 ^ (b + 1)) by simp only [Nat.mul_assoc, Nat.mul_left_comm, Nat.mul_comm]]
      exact Nat.mul_le_mul_right _ w1
    have hW2 : V.natAbs * 2 ^ P ≤ (whole * 2 ^ (b + 1) + 2 ^ (b + 1)) * (whole * 2 ^ (b + 1) + 2 ^ (b + 1)) := by
      rw [← hu, show (whole * 2 ^ (b + 1) + 2 ^ (b + 1)) = (whole + 1) * 2 ^ (b + 1) by rw [Nat.add_mul, Nat.one_mul], show ((whole + 1) * 2 ^ (b + 1)) * ((whole + 1) * 2 ^ (b + 1)) = (whole + 1) * (whole + 1) * (2 ^ (b + 1) * 2 ^ (b + 1)) by simp only [Nat.mul_assoc, Nat.mul_left_comm, Nat.mul_comm]]
      exact Nat.mul_le_mul_right _ (Nat.le_of_lt w2)
    have hwb : whole * 2 ^ (b + 1) ≤ 2 ^ 52 * 2 ^ c := le_of_sq (Nat.le_trans hW1 hb)
    have hwl : 2 ^ 53 ≤ whole := by
      have h3 : 2 ^ 108 ≤ n := by
        have h4 := Nat.log2_self_le h0
        rw [hn]
        calc 2 ^ 108 ≤ 2 ^ (m.log2 + more) := Nat.pow_le_pow_right (by decide) (by omega)
          _ = 2 ^ m.log2 * 2 ^ more := by rw [← Nat.pow_add]
          _ ≤ _ := Nat.mul_le_mul_right _ h4
      have h5 : (2 ^ 54) * (2 ^ 54) < (whole + 1) * (whole + 1) := Nat.lt_of_le_of_lt (by decide : (2 ^ 54) * (2 ^ 54) ≤ 2 ^ 108) (Nat.lt_of_le_of_lt h3 w2)
      have h6 := lt_of_sq h5
      have h7 : (2 : Nat) ^ 53 ≤ 2 ^ 54 := by decide
      omega
    have hU : 2 ^ (b + 1) ≤ 2 ^ c := by
      have h3 : 2 ^ 52 * 2 ^ (b + 1) ≤ 2 ^ 52 * 2 ^ c := Nat.le_trans (Nat.mul_le_mul_right _ (Nat.le_trans (by decide) hwl)) hwb
      exact Nat.le_of_mul_le_mul_left h3 (by decide)
    have hpb : 2 ^ (b + 1) = 2 * 2 ^ b := by rw [Nat.pow_succ, Nat.mul_comm]
    have hbm : bit * 2 ^ b ≤ 2 ^ b := by
      have := Nat.mul_le_mul_right (2 ^ b) hb1
      rwa [Nat.one_mul] at this
    have hM : (2 * whole + bit) * 2 ^ b = whole * 2 ^ (b + 1) + bit * 2 ^ b := by rw [Nat.add_mul, hpb]; simp only [Nat.mul_assoc, Nat.mul_comm]
    obtain ⟨r, r1, r2, r3, r4⟩ := er_core64 false (m := 2 * whole + bit) (a := 0) (b := b) (c := c) (e := (FloatKind.f64.format.leastPlace + (e : Int) - (more : Int)) / 2 - 1) hc (by rw [lp64]; omega) (by
      rw [Nat.pow_zero, Nat.mul_one, hM]
      have h3 : (2 : Nat) ^ 53 = 2 ^ 52 + 2 ^ 52 := by decide
      rw [h3, Nat.add_mul]
      have h4 : 2 ^ c ≤ 2 ^ 52 * 2 ^ c := Nat.le_mul_of_pos_left _ (by decide)
      omega)
    rw [Nat.pow_zero, Nat.mul_one, Nat.mul_one, hM] at r3 r4
    have hw : fsqrt y = FloatKind.f64.format.word false r := by
      have e0 : fsqrt y = (((FloatKind.f64.format.read y).root 54).map FloatKind.f64.format.write).getD (qn .f64) := rfl
      rw [e0, a1]
      simp only [Ieee.Datum.root, if_neg h0, Bool.false_eq_true, if_false, Option.map_some, Option.getD_some, ← hm0, ← hmore, shl_eq, ← hn, ← hwh, ← hbit]
      exact r1
    refine ⟨units FloatKind.f64.format r, whole * 2 ^ (b + 1), 2 ^ (b + 1), ?_, hW1, hW2, by omega, by omega, fun h => ?_⟩
    · rw [hw]
      have := apd_word false r2
      simpa using this
    · rw [h] at a2
      have h5 := Nat.mul_eq_zero.1 (show m * 2 ^ e = 0 from a2)
      have h6 := pow_pos' e
      omega
attribute [local irreducible] D9 D7 UU WW W9
section
variable {x : Nat} {v K : Rat} {k : Nat}
theorem rsq_mono {a b : Rat} (h0 : 0 ≤ a) (h : a ≤ b) : a * a ≤ b * b := by
  have h1 := Rat.mul_le_mul_of_nonneg_right h h0
  have h2 := Rat.mul_le_mul_of_nonneg_left h (Rat.le_trans h0 h)
  grind
theorem rsq_le {a b : Rat} (hb : 0 ≤ b) (h : a * a ≤ b * b) : a ≤ b := by
  rcases (Rat.le_total : a ≤ b ∨ b ≤ a) with h1 | h1
  · exact h1
  · have h3 := rsq_mono hb h1
    have h4 : a * a = b * b := by grind
    have h5 : (a - b) * (a + b) = 0 := by grind
    rcases Rat.mul_eq_zero.1 h5 with h6 | h6
    · grind
    · grind
theorem qv_up {q : Rat} (h : qv x q) : dv (up x) q := by
  obtain ⟨X, hX, eX⟩ := h
  have h2 := apd_up hX
  rw [D9_is] at h2
  refine ⟨_, h2, ?_⟩
  have : ((X * ((D9 : Nat) : Int) : Int) : Rat) = (X : Rat) * ((D9 : Nat) : Rat) := by rw [Rat.intCast_mul]; rfl
  rw [this, eX]
  unfold W9
  grind
theorem qv_sqrt (hK : pw2 k K) (hk : k ≤ 60) (hx : qv x v) (h0 : 0 ≤ v) (h : v ≤ K * K) :
    ∃ z ω, qv (sqrt32 x) z ∧ 0 ≤ ω ∧ ω * ω ≤ v ∧ z ≤ ω + K / 4194304 ∧ 0 ≤ z + K / 4194304 ∧ v ≤ (z + K / 4194304) * (z + K / 4194304) := by
  obtain ⟨V, h1, h2⟩ := qv_up hx
  obtain ⟨P, hP⟩ : ∃ P : Nat, P = 1074 := ⟨_, rfl⟩
  have hp := W9_pos
  have e1 := W9_pow hP
  obtain ⟨c, hc⟩ : ∃ c : Nat, c + 52 = P + k := ⟨P + k - 52, by omega⟩
  have hV : 0 ≤ V := by
    have := Rat.mul_nonneg h0 (Rat.le_of_lt hp)
    rw [← h2] at this
    exact Rat.intCast_le_intCast.1 this
  have hK0 := pw2_nn hK
  have e2 : ((2 ^ 52 * 2 ^ c : Nat) : Rat) = K * W9 := by
    rw [hK, e1, ← Rat.natCast_mul, ← Nat.pow_add, ← Nat.pow_add]
    congr 2; omega
  have e3 : ((2 ^ c : Nat) : Rat) = K * W9 / 4503599627370496 := by
    rw [Rat.natCast_mul] at e2
    have : ((2 ^ 52 : Nat) : Rat) = 4503599627370496 := by rfl
    rw [this] at e2
    grind
  have hVn : ((V.natAbs : Nat) : Rat) = v * W9 := by
    rw [← h2]
    have h3 : ((V.natAbs : Nat) : Int) = V := by omega
    exact congrArg (fun z : Int => (z : Rat)) h3
  have hpp := Rat.mul_pos hp hp
  obtain ⟨Z, w, u, z1, z2, z3, z4, z5, _⟩ := er_sqrt64 hP (c := c) (by omega) h1 hV (nat_of_q (by
    rw [Rat.natCast_mul, Rat.natCast_mul (2 ^ 52 * 2 ^ c), e2, hVn, ← e1]
    have := Rat.mul_le_mul_of_nonneg_right h (Rat.le_of_lt hpp)
    grind))
  have q2 : ((w * w : Nat) : Rat) ≤ ((V.natAbs * 2 ^ P : Nat) : Rat) := Rat.natCast_le_natCast.2 z2
  have q3 : ((V.natAbs * 2 ^ P : Nat) : Rat) ≤ (((w + u) * (w + u) : Nat) : Rat) := Rat.natCast_le_natCast.2 z3
  have q4 : ((Z : Nat) : Rat) ≤ ((w + 2 * 2 ^ c : Nat) : Rat) := Rat.natCast_le_natCast.2 z4
  have q5 : ((w + u : Nat) : Rat) ≤ ((Z + 2 * 2 ^ c : Nat) : Rat) := Rat.natCast_le_natCast.2 z5
  simp only [Rat.natCast_mul, Rat.natCast_add, hVn, e3, ← e1] at q2 q3 q4 q5
  have hw0 : (0 : Rat) ≤ ((w : Nat) : Rat) := Rat.natCast_nonneg
  have hu0 : (0 : Rat) ≤ ((u : Nat) : Rat) := Rat.natCast_nonneg
  have hZ0 : (0 : Rat) ≤ ((Z : Nat) : Rat) := Rat.natCast_nonneg
  have h22 : ((2 : Nat) : Rat) = 2 := rfl
  rw [h22] at q4 q5
  obtain ⟨ω, hω⟩ : ∃ ω : Rat, ((w : Nat) : Rat) = ω * W9 := ⟨((w : Nat) : Rat) / W9, by grind⟩
  obtain ⟨υ, hυ⟩ : ∃ υ : Rat, ((u : Nat) : Rat) = υ * W9 := ⟨((u : Nat) : Rat) / W9, by grind⟩
  obtain ⟨ζ, hζ⟩ : ∃ ζ : Rat, ((Z : Nat) : Rat) = ζ * W9 := ⟨((Z : Nat) : Rat) / W9, by grind⟩
  rw [hω] at q2 q3 q4 q5 hw0
  rw [hυ] at q3 q5 hu0
  rw [hζ] at q4 q5 hZ0
  have a0 : 0 ≤ ω := Rat.le_of_mul_le_mul_right (c := W9) (by rw [Rat.zero_mul]; exact hw0) hp
  have a1 : 0 ≤ υ := Rat.le_of_mul_le_mul_right (c := W9) (by rw [Rat.zero_mul]; exact hu0) hp
  have a2 : 0 ≤ ζ := Rat.le_of_mul_le_mul_right (c := W9) (by rw [Rat.zero_mul]; exact hZ0) hp
  have b2 : ω * ω ≤ v := Rat.le_of_mul_le_mul_right (c := W9 * W9) (by grind) hpp
  have b3 : v ≤ (ω + υ) * (ω + υ) := Rat.le_of_mul_le_mul_right (c := W9 * W9) (by grind) hpp
  have b4 : ζ ≤ ω + 2 * (K / 4503599627370496) := Rat.le_of_mul_le_mul_right (c := W9) (by grind) hp
  have b5 : ω + υ ≤ ζ + 2 * (K / 4503599627370496) := Rat.le_of_mul_le_mul_right (c := W9) (by grind) hp
  have hωK : ω ≤ K := rsq_le hK0 (Rat.le_trans b2 h)
  have hdv : dv (fsqrt (up x)) ζ := ⟨(Z : Int), z1, by rw [← hζ]; rfl⟩
  obtain ⟨_, z, g1, g2, g3⟩ := dv_narrow (pw2_mul 1 (J := 2) rfl hK) (by omega) hdv (by grind) (by grind)
  refine ⟨z, ω, g1, a0, b2, by grind, by grind, Rat.le_trans b3 (rsq_mono (by grind) (by grind))⟩
end
end Go.Proofs.Ytfeciemlhiclbaa


namespace Go.Proofs.Ytfeciemlhiclbaa
open Go.RowKit

section
variable {ws : List Wr} {vs : List V3} {way p : V3} {xs : List Nat} {i j k : Nat} {g : Nat → Option Addr × Nat}
end
section
variable {ws : List Wr} {vs : List V3} {way : V3} {xs : List Nat}
end
end Go.Proofs.Ytfeciemlhiclbaa


namespace Go.Proofs.Ytfeciemlhiclbaa
open Go.RowKit

set_option maxRecDepth 20000
attribute [local irreducible] D9 D7 UU WW W9
def u24 : Rat := 1 / 16777216
theorem ex_pw2 {v : Rat} (h0 : 0 ≤ v) : ∀ n : Nat, v ≤ ((2 ^ n : Nat) : Rat) → ∃ k K, pw2 k K ∧ k ≤ n ∧ v ≤ K ∧ K ≤ 1 + 2 * v
  | 0, h => ⟨0, 1, rfl, Nat.le_refl _, h, by grind⟩
  | n + 1, h => by
    by_cases h1 : v ≤ ((2 ^ n : Nat) : Rat)
    · obtain ⟨k, K, a, b, c, d⟩ := ex_pw2 h0 n h1
      exact ⟨k, K, a, by omega, c, d⟩
    · refine ⟨n + 1, ((2 ^ (n + 1) : Nat) : Rat), rfl, Nat.le_refl _, h, ?_⟩
      rw [Nat.pow_succ, Rat.natCast_mul]
      have : ((2 : Nat) : Rat) = 2 := rfl
      rw [this]
      grind
theorem big60 {B : Rat} (h : B ≤ 1000000000000000000) : B ≤ ((2 ^ 60 : Nat) : Rat) := by
  have : ((2 ^ 60 : Nat) : Rat) = 1152921504606846976 := by rfl
  rw [this]; grind
def nr (x : Nat) (v E : Rat) : Prop := ∃ z, qv x z ∧ Rg (z - v) E
section
variable {x y : Nat} {p q v w A B E F G : Rat}
theorem nr.of (h : qv x v) : nr x v 0 := ⟨v, h, by unfold Rg; constructor <;> grind⟩
theorem nr.mono (h : nr x v E) (hE : E ≤ F) : nr x v F := by obtain ⟨z, a, b⟩ := h; exact ⟨z, a, b.mono hE⟩
theorem Rg.nn (h : Rg p B) : 0 ≤ B := by obtain ⟨h1, h2⟩ := h; grind
theorem rd_add (hx : qv x p) (hy : qv y q) (h : Rg (p + q) B) (hB : B ≤ 1000000000000000000) : ∃ z, qv (fop .add .f32 x y) z ∧ Rg (z - (p + q)) ((1 + 2 * B) * u24) := by
  obtain ⟨k, K, a, b, c, d⟩ := ex_pw2 h.nn 60 (big60 hB)
  obtain ⟨h1, h2⟩ := h
  obtain ⟨z, z1, z2, z3⟩ := qv_add a (by omega) hx hy (by grind) (by grind)
  refine ⟨z, z1, ?_⟩
  unfold u24 Rg
  constructor <;> grind
theorem rd_sub (hx : qv x p) (hy : qv y q) (h : Rg (p - q) B) (hB : B ≤ 1000000000000000000) : ∃ z, qv (fop .sub .f32 x y) z ∧ Rg (z - (p - q)) ((1 + 2 * B) * u24) := by
  obtain ⟨k, K, a, b, c, d⟩ := ex_pw2 h.nn 60 (big60 hB)
  obtain ⟨h1, h2⟩ := h
  obtain ⟨z, z1, z2, z3⟩ := qv_sub a (by omega) hx hy (by grind) (by grind)
  refine ⟨z, z1, ?_⟩
  unfold u24 Rg
  constructor <;> grind
theorem rd_mul (hx : qv x p) (hy : qv y q) (h : Rg (p * q) B) (hB : B ≤ 1000000000000000000) : ∃ z, qv (fop .mul .f32 x y) z ∧ Rg (z - p * q) ((1 + 2 * B) * u24) := by
  obtain ⟨k, K, a, b, c, d⟩ := ex_pw2 h.nn 60 (big60 hB)
  obtain ⟨h1, h2⟩ := h
  obtain ⟨z, z1, z2, z3⟩ := qv_mul a (by omega) hx hy (by grind) (by grind)
  refine ⟨z, z1, ?_⟩
  unfold u24 Rg
  constructor <;> grind
theorem nr_add (hx : nr x v E) (hy : nr y w F) (hv : Rg (v + w) A) (hA : A + E + F ≤ 1000000000000000000) (hG : E + F + (1 + 2 * (A + E + F)) * u24 ≤ G) : nr (fop .add .f32 x y) (v + w) G := by
  obtain ⟨p, p1, p2⟩ := hx
  obtain ⟨q, q1, q2⟩ := hy
  have h : Rg (p + q) (A + E + F) := by
    obtain ⟨a1, a2⟩ := p2; obtain ⟨b1, b2⟩ := q2; obtain ⟨c1, c2⟩ := hv
    constructor <;> grind
  obtain ⟨z, z1, z2⟩ := rd_add p1 q1 h hA
  refine ⟨z, z1, ?_⟩
  obtain ⟨a1, a2⟩ := p2; obtain ⟨b1, b2⟩ := q2; obtain ⟨c1, c2⟩ := z2
  constructor <;> grind
theorem nr_sub (hx : nr x v E) (hy : nr y w F) (hv : Rg (v - w) A) (hA : A + E + F ≤ 1000000000000000000) (hG : E + F + (1 + 2 * (A + E + F)) * u24 ≤ G) : nr (fop .sub .f32 x y) (v - w) G := by
  obtain ⟨p, p1, p2⟩ := hx
  obtain ⟨q, q1, q2⟩ := hy
  have h : Rg (p - q) (A + E + F) := by
    obtain ⟨a1, a2⟩ := p2; obtain ⟨b1, b2⟩ := q2; obtain ⟨c1, c2⟩ := hv
    constructor <;> grind
  obtain ⟨z, z1, z2⟩ := rd_sub p1 q1 h hA
  refine ⟨z, z1, ?_⟩
  obtain ⟨a1, a2⟩ := p2; obtain ⟨b1, b2⟩ := q2; obtain ⟨c1, c2⟩ := z2
  constructor <;> grind
theorem nr_mul (hx : nr x v E) (hy : nr y w F) (hv : Rg v A) (hw : Rg w B) (hA : (A + E) * (B + F) ≤ 1000000000000000000) (hG : A * F + E * B + E * F + (1 + 2 * ((A + E) * (B + F))) * u24 ≤ G) : nr (fop .mul .f32 x y) (v * w) G := by
  obtain ⟨p, p1, p2⟩ := hx
  obtain ⟨q, q1, q2⟩ := hy
  have e1 : Rg p (A + E) := by
    obtain ⟨a1, a2⟩ := p2; obtain ⟨c1, c2⟩ := hv
    constructor <;> grind
  have e2 : Rg q (B + F) := by
    obtain ⟨a1, a2⟩ := q2; obtain ⟨c1, c2⟩ := hw
    constructor <;> grind
  obtain ⟨z, z1, z2⟩ := rd_mul p1 q1 (rmul e1 e2) hA
  refine ⟨z, z1, ?_⟩
  have f1 := rmul hv q2
  have f2 := rmul p2 hw
  have f3 := rmul p2 q2
  have e : z - v * w = (z - p * q) + (v * (q - w) + (p - v) * w + (p - v) * (q - w)) := by grind
  rw [e]
  exact (z2.add ((f1.add f2).add f3)).mono (by grind)
theorem qv_quo {K : Rat} {k : Nat} (hK : pw2 k K) (hk : k ≤ 70) (hx : qv x p) (hy : qv y q) (hq : 0 < q) (h1 : -(K * q) ≤ 2 * p) (h2 : 2 * p ≤ K * q) : ∃ z, qv (fop .quo .f32 x y) z ∧ p - 2 * K * u24 * q ≤ z * q ∧ z * q ≤ p + 2 * K * u24 * q := by
  obtain ⟨X, hX, eX⟩ := hx
  obtain ⟨Y, hY, eY⟩ := hy
  obtain ⟨J, hJ, rfl⟩ := pw2_int hK
  have hw := WW_is
  have hp := WW_pos
  have hY0 : 0 < Y := by
    have := Rat.mul_pos hq hp
    rw [← eY] at this
    exact (Rat.intCast_lt_intCast (a := 0)).1 this
  obtain ⟨Z, z1, z2, z3⟩ := er_quo k hJ hk hX hY hY0
    (i_of_q (a := -((J : Rat) * q)) (b := 2 * p) (by push_cast; grind) (by push_cast; grind) h1) (i_of_q (a := 2 * p) (b := (J : Rat) * q) (by push_cast; grind) (by push_cast; grind) h2)
  refine ⟨(Z : Rat) / WW, ⟨Z, z1, by grind⟩, q_of_i2 ?_ ?_ z2, q_of_i2 ?_ ?_ z3⟩
  · unfold u24; push_cast; grind
  · push_cast; grind
  · push_cast; grind
  · unfold u24; push_cast; grind
theorem rd_quo (hx : qv x p) (hy : qv y q) (hq : 0 < q) (h1 : -(B * q) ≤ p) (h2 : p ≤ B * q) (h0 : 0 ≤ B) (hB : 2 * B ≤ 1000000000000000000) : ∃ z, qv (fop .quo .f32 x y) z ∧ p - 2 * (1 + 4 * B) * u24 * q ≤ z * q ∧ z * q ≤ p + 2 * (1 + 4 * B) * u24 * q := by
  obtain ⟨k, K, a, b, c, d⟩ := ex_pw2 (v := 2 * B) (by grind) 60 (big60 hB)
  have e1 := Rat.mul_le_mul_of_nonneg_right c (Rat.le_of_lt hq)
  obtain ⟨z, z1, z2, z3⟩ := qv_quo a (by omega) hx hy hq (by grind) (by grind)
  have e2 := Rat.mul_le_mul_of_nonneg_right d (Rat.le_of_lt hq)
  refine ⟨z, z1, ?_, ?_⟩
  · unfold u24 at *; grind
  · unfold u24 at *; grind
/-! ### exact zeros -/
theorem qv_apx0 (h : qv x 0) : apx x 0 := by
  obtain ⟨X, hX, eX⟩ := h
  rw [Rat.zero_mul] at eX
  have : X = 0 := Rat.intCast_inj.1 eX
  rw [← this]; exact hX
theorem apx_qv0 (h : apx x 0) : qv x 0 := ⟨0, h, by rw [Rat.zero_mul]; rfl⟩
theorem qv_sub_eq (hx : qv x p) (hy : qv y p) : qv (fop .sub .f32 x y) 0 := by
  obtain ⟨X, hX, eX⟩ := hx
  obtain ⟨Y, hY, eY⟩ := hy
  have e : X = Y := Rat.intCast_inj.1 (eX.trans eY.symm)
  subst e
  obtain ⟨s, M, q, e1, e2, e3, e4⟩ := sum_units hX.2.1 hY.2.1 true
  simp only [if_true] at e1 e2 e3 e4
  rw [hX.2.2, hY.2.2] at e2 e3 e4
  have h0 : X + -X = 0 := by omega
  rw [h0] at e2 e3 e4
  have := dy_write (k := .f32) (s := s) (M := M) (q := q) (X := 0) (v := 0) e2 (by rw [Int.zero_mul]) e3 e4 (by decide)
  have hw : fop .sub .f32 x y = FloatKind.f32.format.write (.number s M (FloatKind.f32.format.leastPlace + (q : Int))) := by
    show ((((FloatKind.f32.format.read x).sum (FloatKind.f32.format.read y).opposite).map FloatKind.f32.format.write).getD (qn .f32)) = _
    rw [e1]; rfl
  rw [hw]
  have h2 := apx_dy this
  rw [Int.zero_mul] at h2
  exact apx_qv0 h2
theorem qv_add00 (hx : qv x 0) (hy : qv y 0) : qv (fop .add .f32 x y) 0 := by
  have h1 := qv_apx0 hx
  have h2 := qv_apx0 hy
  have d1 : dy .f32 x 0 := ⟨h1.1, h1.2.1, by rw [h1.2.2, Int.zero_mul]⟩
  have d2 : dy .f32 y 0 := ⟨h2.1, h2.2.1, by rw [h2.2.2, Int.zero_mul]⟩
  have := apx_dy (dy_add d1 d2 (by decide))
  rw [Int.add_zero, Int.zero_mul] at this
  exact apx_qv0 this
end
/-- The three numbers of a vector. -/
structure qv3 (w : V3) (a b c : Rat) : Prop where
  x : qv w.1 a
  y : qv w.2.1 b
  z : qv w.2.2 c
structure nr3 (w : V3) (a b c E : Rat) : Prop where
  x : nr w.1 a E
  y : nr w.2.1 b E
  z : nr w.2.2 c E
section
variable {a b p r s : V3} {a1 a2 a3 b1 b2 b3 p1 p2 p3 r1 r2 r3 s1 s2 s3 A E : Rat}
structure Rg3 (a b c A : Rat) : Prop where
  x : Rg a A
  y : Rg b A
  z : Rg c A
end
end Go.Proofs.Ytfeciemlhiclbaa


namespace Go.Proofs.Ytfeciemlhiclbaa
open Go.RowKit

set_option maxRecDepth 20000
attribute [local irreducible] D9 D7 UU WW W9
theorem qv_fin {x : Nat} {p : Rat} (h : qv x p) : fin x = true := by
  obtain ⟨Z, hZ, e1⟩ := qv_sub_eq h h
  obtain ⟨O, hO, e2⟩ := qv_zero
  rw [Rat.zero_mul] at e1 e2
  have e3 : Z = O := Rat.intCast_inj.1 (e1.trans e2.symm)
  unfold fin
  show (FloatKind.f32.format.order _ 0 == some .eq) = true
  rw [qv_cmp hZ hO, e3, compare_eq.2 rfl]; rfl
theorem abs_ex (κ : Rat) : ∃ k : Rat, 0 ≤ k ∧ k * k = κ * κ ∧ Rg κ k := by
  rcases (Rat.le_total : 0 ≤ κ ∨ κ ≤ 0) with h | h
  · exact ⟨κ, h, rfl, by unfold Rg; constructor <;> grind⟩
  · exact ⟨-κ, by grind, by grind, by unfold Rg; constructor <;> grind⟩
section
variable {a b p : V3} {a1 a2 a3 b1 b2 b3 p1 p2 p3 R S T g G : Rat}
end
end Go.Proofs.Ytfeciemlhiclbaa


namespace Go.Proofs.Ytfeciemlhiclbaa
open Go.RowKit

set_option maxRecDepth 20000
attribute [local irreducible] D9 D7 UU WW W9
section
variable {v R X z ω Q G N n d P W p w : Rat}
theorem cl_root (hX : 199 / 100 ≤ X) (h1 : R - 32 * u24 ≤ X * X) (h2 : X * X ≤ R + 32 * u24) (h3 : Rg (v - R) (420 * u24)) (h4 : ω * ω ≤ v) (h5 : z ≤ ω + 32 * u24) (h6 : 0 ≤ z + 32 * u24) (h7 : v ≤ (z + 32 * u24) * (z + 32 * u24)) : Rg (z - X) (146 * u24) := by
  obtain ⟨g1, g2⟩ := h3
  have hu : 0 ≤ u24 := by decide +kernel
  have hu1 : 114 * u24 ≤ 1 / 100 := by decide +kernel
  have m1 : 199 / 100 * u24 ≤ X * u24 := Rat.mul_le_mul_of_nonneg_right hX hu
  have m2 : 0 ≤ u24 * u24 := Rat.mul_nonneg hu hu
  have m3 : 114 * u24 * (114 * u24) ≤ 1 * u24 := by
    have := Rat.mul_le_mul_of_nonneg_right (show 12996 * u24 ≤ 1 by decide +kernel) hu
    grind
  have a1 : ω ≤ X + 114 * u24 := rsq_le (by grind) (by
    have e : (X + 114 * u24) * (X + 114 * u24) = X * X + 228 * (X * u24) + 12996 * (u24 * u24) := by grind
    rw [e]; grind)
  have a2 : X - 114 * u24 ≤ z + 32 * u24 := rsq_le h6 (by
    have e : (X - 114 * u24) * (X - 114 * u24) = X * X - 228 * (X * u24) + 114 * u24 * (114 * u24) := by grind
    rw [e]; grind)
  constructor <;> grind
/-- A quotient. -/
theorem cl_quo (hG : 27 ≤ G) (hQ : Q * G = N) (q0 : 0 ≤ Q) (q1 : Q ≤ 15 / 100) (d1 : G - 1080 * u24 * G ≤ d) (d2 : d ≤ G + 1080 * u24 * G) (n1 : N - 330 * u24 ≤ n) (n2 : n ≤ N + 330 * u24) (h1 : n - 10 * u24 * d ≤ z * d) (h2 : z * d ≤ n + 10 * u24 * d) : Rg (z - Q) (250 * u24) := by
  have hu : 0 ≤ u24 := by decide +kernel
  have hu1 : 1080 * u24 ≤ 1 / 1000 := by decide +kernel
  have hu9 : 0 < u24 := by decide +kernel
  have hP : 0 < G := by grind
  have mG : 1080 * u24 * G ≤ 1 / 1000 * G := Rat.mul_le_mul_of_nonneg_right hu1 (Rat.le_of_lt hP)
  have m1 : 27 * u24 ≤ G * u24 := Rat.mul_le_mul_of_nonneg_right hG hu
  have k330 : 330 * u24 ≤ 13 * u24 * G := by grind
  have mQ : Q * u24 ≤ 15 / 100 * u24 := Rat.mul_le_mul_of_nonneg_right q1 hu
  have mQ0 : 0 ≤ Q * u24 := Rat.mul_nonneg q0 hu
  have m2 : u24 * u24 ≤ 1 / 1000000 * u24 := Rat.mul_le_mul_of_nonneg_right (by decide +kernel) hu
  have m20 : 0 ≤ u24 * u24 := Rat.mul_nonneg hu hu
  have hc : 0 ≤ 1 - 1080 * u24 := by grind
  constructor
  · -- from below
    have e1 : (Q - 13 * u24) * G ≤ (z + 10 * u24) * d := by grind
    rcases (Rat.le_total : 0 ≤ z + 10 * u24 ∨ z + 10 * u24 ≤ 0) with g | g
    · have e2 : (z + 10 * u24) * d ≤ (z + 10 * u24) * (G + 1080 * u24 * G) := Rat.mul_le_mul_of_nonneg_left d2 g
      have e3 : Q - 13 * u24 ≤ (z + 10 * u24) * (1 + 1080 * u24) := Rat.le_of_mul_le_mul_right (c := G) (by grind) hP
      have e4 : Q - 200 * u24 ≤ z := by
        rcases (Rat.le_total : Q - 200 * u24 ≤ z ∨ z ≤ Q - 200 * u24) with h | h
        · exact h
        · have e5 : (z + 10 * u24) * (1 + 1080 * u24) ≤ (Q - 190 * u24) * (1 + 1080 * u24) := Rat.mul_le_mul_of_nonneg_right (by grind) (by grind)
          have e6 : (Q - 190 * u24) * (1 + 1080 * u24) = Q - 190 * u24 + 1080 * (Q * u24) - 205200 * (u24 * u24) := by grind
          rw [e6] at e5
          grind
      grind
    · have e2 : (z + 10 * u24) * d ≤ 0 := by
        have : 0 ≤ d := by grind
        have := Rat.mul_le_mul_of_nonneg_right g this
        rwa [Rat.zero_mul] at this
      have e3 : Q - 13 * u24 ≤ 0 := Rat.le_of_mul_le_mul_right (c := G) (by grind) hP
      rcases (Rat.le_total : Q - 200 * u24 ≤ z ∨ z ≤ Q - 200 * u24) with h | h
      · grind
      · exfalso
        have hz : z + 10 * u24 ≤ -177 * u24 := by grind
        have d0 : G * (999 / 1000) ≤ d := by grind
        have e4 : (z + 10 * u24) * d ≤ -177 * u24 * d := Rat.mul_le_mul_of_nonneg_right hz (by grind)
        have e5 : 177 * u24 * (G * (999 / 1000)) ≤ 177 * u24 * d := Rat.mul_le_mul_of_nonneg_left d0 (by grind)
        have e6 : 0 ≤ Q * G := Rat.mul_nonneg q0 (Rat.le_of_lt hP)
        have e7 : 0 < u24 * G := Rat.mul_pos hu9 hP
        grind
  · rcases (Rat.le_total : 0 ≤ z - 10 * u24 ∨ z - 10 * u24 ≤ 0) with g | g
    · have e1 : (z - 10 * u24) * d ≤ (Q + 13 * u24) * G := by grind
      have e2 : (z - 10 * u24) * (G - 1080 * u24 * G) ≤ (z - 10 * u24) * d := Rat.mul_le_mul_of_nonneg_left d1 g
      have e3 : (z - 10 * u24) * (1 - 1080 * u24) ≤ Q + 13 * u24 := Rat.le_of_mul_le_mul_right (c := G) (by grind) hP
      rcases (Rat.le_total : z ≤ Q + 200 * u24 ∨ Q + 200 * u24 ≤ z) with h | h
      · grind
      · have e5 : (Q + 190 * u24) * (1 - 1080 * u24) ≤ (z - 10 * u24) * (1 - 1080 * u24) := Rat.mul_le_mul_of_nonneg_right (by grind) hc
        have e6 : (Q + 190 * u24) * (1 - 1080 * u24) = Q + 190 * u24 - 1080 * (Q * u24) - 205200 * (u24 * u24) := by grind
        rw [e6] at e5
        grind
    · grind
/-- A product of two that are near. -/
theorem cl_mul (hP : 99 / 25 ≤ P) (hW : 7 ≤ W) (hp : Rg (p - P) (2470 * u24)) (hw : Rg (w - W) (3150 * u24)) : P * W - 1076 * u24 * (P * W) ≤ p * w ∧ p * w ≤ P * W + 1076 * u24 * (P * W) ∧ 0 ≤ p ∧ 0 ≤ w := by
  have hu : 0 ≤ u24 := by decide +kernel
  have hu1 : 3150 * u24 ≤ 1 / 1000 := by decide +kernel
  obtain ⟨p1, p2⟩ := hp
  obtain ⟨w1, w2⟩ := hw
  have k1 : 99 / 25 * u24 ≤ P * u24 := Rat.mul_le_mul_of_nonneg_right hP hu
  have k2 : 7 * u24 ≤ W * u24 := Rat.mul_le_mul_of_nonneg_right hW hu
  have p3 : p ≤ P * (1 + 624 * u24) := by grind
  have p4 : P * (1 - 624 * u24) ≤ p := by grind
  have w3 : w ≤ W * (1 + 450 * u24) := by grind
  have w4 : W * (1 - 450 * u24) ≤ w := by grind
  have p0 : 0 ≤ p := by grind
  have w0 : 0 ≤ w := by grind
  have hPW : 0 ≤ P * W := Rat.mul_nonneg (by grind) (by grind)
  have m2 : u24 * u24 ≤ 1 / 1000000 * u24 := Rat.mul_le_mul_of_nonneg_right (by decide +kernel) hu
  have m20 : 0 ≤ u24 * u24 := Rat.mul_nonneg hu hu
  have m3 : P * W * (u24 * u24) ≤ P * W * (1 / 1000000 * u24) := Rat.mul_le_mul_of_nonneg_left m2 hPW
  have m30 : 0 ≤ P * W * (u24 * u24) := Rat.mul_nonneg hPW m20
  refine ⟨?_, ?_, p0, w0⟩
  · have a1 : P * (1 - 624 * u24) * w ≤ p * w := Rat.mul_le_mul_of_nonneg_right p4 w0
    have a2 : P * (1 - 624 * u24) * (W * (1 - 450 * u24)) ≤ P * (1 - 624 * u24) * w := Rat.mul_le_mul_of_nonneg_left w4 (Rat.mul_nonneg (by grind) (by grind))
    have e : P * (1 - 624 * u24) * (W * (1 - 450 * u24)) = P * W - 1074 * u24 * (P * W) + 280800 * (P * W * (u24 * u24)) := by grind
    rw [e] at a2
    have m4 : 0 ≤ P * W * u24 := Rat.mul_nonneg hPW hu
    grind
  · have a1 : p * w ≤ P * (1 + 624 * u24) * w := Rat.mul_le_mul_of_nonneg_right p3 w0
    have a2 : P * (1 + 624 * u24) * w ≤ P * (1 + 624 * u24) * (W * (1 + 450 * u24)) := Rat.mul_le_mul_of_nonneg_left w3 (Rat.mul_nonneg (by grind) (by grind))
    have e : P * (1 + 624 * u24) * (W * (1 + 450 * u24)) = P * W + 1074 * u24 * (P * W) + 280800 * (P * W * (u24 * u24)) := by grind
    rw [e] at a2
    have m4 : 0 ≤ P * W * u24 := Rat.mul_nonneg hPW hu
    grind
end
end Go.Proofs.Ytfeciemlhiclbaa


namespace Go.Proofs.Ytfeciemlhiclbaa
open Go.RowKit

set_option maxRecDepth 20000
attribute [local irreducible] D9 D7 UU WW W9
section
variable {r s a b p : V3} {r1 r2 s1 s2 p3 R X Y Q T e1 e2 : Rat}
structure Cl3 (r : V3) (r1 r2 p3 : Rat) : Prop where
  x : nr r.1 r1 (8 * u24)
  y : nr r.2.1 r2 (8 * u24)
  z : nr r.2.2 p3 0
  bx : Rg r1 (13 / 4)
  by' : Rg r2 (13 / 4)
  bz : Rg p3 (25 / 4)
theorem cl_mm {x y : Nat} {v w : Rat} (hx : nr x v (8 * u24)) (hy : nr y w (8 * u24)) (h1 : Rg v (13 / 4)) (h2 : Rg w (13 / 4)) : nr (fop .mul .f32 x y) (v * w) (76 * u24) ∧ Rg (v * w) (169 / 16) :=
  ⟨nr_mul hx hy h1 h2 (by decide +kernel) (by decide +kernel), (rmul h1 h2).mono (by decide +kernel)⟩
theorem cl_mz {x y : Nat} {v w : Rat} (hx : nr x v (8 * u24)) (hy : nr y w 0) (h1 : Rg v (13 / 4)) (h2 : Rg w (25 / 4)) : nr (fop .mul .f32 x y) (v * w) (94 * u24) ∧ Rg (v * w) (325 / 16) :=
  ⟨nr_mul hx hy h1 h2 (by decide +kernel) (by decide +kernel), (rmul h1 h2).mono (by decide +kernel)⟩
theorem cl_zm {x y : Nat} {v w : Rat} (hx : nr x v 0) (hy : nr y w (8 * u24)) (h1 : Rg v (25 / 4)) (h2 : Rg w (13 / 4)) : nr (fop .mul .f32 x y) (v * w) (94 * u24) ∧ Rg (v * w) (325 / 16) :=
  ⟨nr_mul hx hy h1 h2 (by decide +kernel) (by decide +kernel), (rmul h1 h2).mono (by decide +kernel)⟩
theorem cl_inner (hr : Cl3 r r1 r2 p3) (hs : Cl3 s s1 s2 p3) : nr (inner3 r s) (r1 * s1 + r2 * s2 + p3 * p3) (420 * u24) ∧ Rg (r1 * s1 + r2 * s2 + p3 * p3) 61 := by
  obtain ⟨m1, b1⟩ := cl_mm hr.x hs.x hr.bx hs.bx
  obtain ⟨m2, b2⟩ := cl_mm hr.y hs.y hr.by' hs.by'
  have m3 := nr_mul hr.z hs.z hr.bz hs.bz (G := 80 * u24) (by decide +kernel) (by decide +kernel)
  have b3 := rmul hr.bz hs.bz
  have c1 := (b1.add b2).mono (B := 85 / 4) (by decide +kernel)
  have c2 := (c1.add b3).mono (B := 61) (by decide +kernel)
  exact ⟨nr_add (E := 198 * u24) (nr_add m1 m2 c1 (by decide +kernel) (by decide +kernel)) m3 c2 (by decide +kernel) (by decide +kernel), c2⟩
theorem cl_long (hr : Cl3 r r1 r2 p3) (hX : 199 / 100 ≤ X) (h1 : r1 * r1 + r2 * r2 + p3 * p3 - 32 * u24 ≤ X * X) (h2 : X * X ≤ r1 * r1 + r2 * r2 + p3 * p3 + 32 * u24) : nr (long3 r) X (146 * u24) := by
  obtain ⟨⟨v, v1, v2⟩, b⟩ := cl_inner hr hr
  have hv : 0 ≤ v ∧ v ≤ 8 * 8 := by
    obtain ⟨g1, g2⟩ := v2
    obtain ⟨g3, g4⟩ := b
    have k1 : (199 / 100 : Rat) * (199 / 100) ≤ X * X := rsq_mono (by decide +kernel) hX
    have k2 : 452 * u24 ≤ (199 / 100 : Rat) * (199 / 100) := by decide +kernel
    have k3 : (61 : Rat) + 420 * u24 ≤ 8 * 8 := by decide +kernel
    generalize r1 * r1 + r2 * r2 + p3 * p3 = R at *
    generalize X * X = XX at *
    clear hX v1
    constructor <;> grind
  obtain ⟨z, ω, z1, z2, z3, z4, z5, z6⟩ := qv_sqrt (k := 3) (K := 8) (show (8 : Rat) = ((2 ^ 3 : Nat) : Rat) by decide +kernel) (by decide) v1 hv.1 hv.2
  have hδ : (8 : Rat) / 4194304 = 32 * u24 := by decide +kernel
  rw [hδ] at z4 z5 z6
  exact ⟨z, z1, cl_root hX h1 h2 v2 z3 z4 z5 z6⟩
theorem cl_cross (hr : Cl3 r r1 r2 p3) (hs : Cl3 s s1 s2 p3) : nr3 (cross3 r s) (r2 * p3 - p3 * s2) (p3 * s1 - r1 * p3) (r1 * s2 - r2 * s1) (272 * u24) := by
  obtain ⟨a1, b1⟩ := cl_mz hr.y hs.z hr.by' hs.bz
  obtain ⟨a2, b2⟩ := cl_zm hr.z hs.y hr.bz hs.by'
  obtain ⟨a3, b3⟩ := cl_zm hr.z hs.x hr.bz hs.bx
  obtain ⟨a4, b4⟩ := cl_mz hr.x hs.z hr.bx hs.bz
  obtain ⟨a5, b5⟩ := cl_mm hr.x hs.y hr.bx hs.by'
  obtain ⟨a6, b6⟩ := cl_mm hr.y hs.x hr.by' hs.bx
  exact ⟨nr_sub a1 a2 ((b1.sub b2).mono (B := 325 / 8) (by decide +kernel)) (by decide +kernel) (by decide +kernel), nr_sub a3 a4 ((b3.sub b4).mono (B := 325 / 8) (by decide +kernel)) (by decide +kernel) (by decide +kernel), nr_sub a5 a6 ((b5.sub b6).mono (B := 325 / 8) (by decide +kernel)) (by decide +kernel) (by decide +kernel)⟩
/-- A root is at least nearly two. -/
theorem cl_far (hp : 2 ≤ p3) (h0 : 0 ≤ X) (h1 : r1 * r1 + r2 * r2 + p3 * p3 - 32 * u24 ≤ X * X) : 199 / 100 ≤ X := by
  refine rsq_le h0 (Rat.le_trans ?_ h1)
  have k1 : (2 : Rat) * 2 ≤ p3 * p3 := rsq_mono (by decide +kernel) hp
  have sq0 : ∀ κ : Rat, 0 ≤ κ * κ := fun κ => by
    obtain ⟨k, k0, k1, _⟩ := abs_ex κ
    rw [← k1]; exact Rat.mul_nonneg k0 k0
  have k2 := sq0 r1
  have k3 := sq0 r2
  have k4 : (199 / 100 : Rat) * (199 / 100) ≤ 2 * 2 - 32 * u24 := by decide +kernel
  generalize r1 * r1 = A at *
  generalize r2 * r2 = B at *
  generalize p3 * p3 = C at *
  clear hp h0
  grind
theorem cl_near (hr : Cl3 r r1 r2 p3) (h2 : X * X ≤ r1 * r1 + r2 * r2 + p3 * p3 + 32 * u24) : X ≤ 8 := by
  have b := (cl_inner hr hr).2.2
  refine rsq_le (by decide +kernel) (Rat.le_trans h2 ?_)
  have k3 : (61 : Rat) + 32 * u24 ≤ 8 * 8 := by decide +kernel
  generalize r1 * r1 + r2 * r2 + p3 * p3 = R at *
  clear h2
  grind
/-- What stands in the quotient: its second factor. -/
theorem cl_W (hX : 199 / 100 ≤ X) (hY : 199 / 100 ≤ Y) (hL : (r1 - s1) * (r1 - s1) + (r2 - s2) * (r2 - s2) ≤ 3 / 5) (hx2 : X * X ≤ r1 * r1 + r2 * r2 + p3 * p3 + 32 * u24) (hy2 : Y * Y ≤ s1 * s1 + s2 * s2 + p3 * p3 + 32 * u24) : 99 / 25 ≤ X * Y ∧ 7 ≤ X * Y + (r1 * s1 + r2 * s2 + p3 * p3) := by
  have k1 : (199 / 100 : Rat) * Y ≤ X * Y := Rat.mul_le_mul_of_nonneg_right hX (by grind)
  have k2 : (199 / 100 : Rat) * (199 / 100) ≤ X * X := rsq_mono (by decide +kernel) hX
  have k3 : (199 / 100 : Rat) * (199 / 100) ≤ Y * Y := rsq_mono (by decide +kernel) hY
  have k4 : (99 / 25 : Rat) ≤ 199 / 100 * (199 / 100) := by decide +kernel
  have k5 : 32 * u24 ≤ 1 / 1000 := by decide +kernel
  have e : 2 * (r1 * s1 + r2 * s2 + p3 * p3) = (r1 * r1 + r2 * r2 + p3 * p3) + (s1 * s1 + s2 * s2 + p3 * p3) - ((r1 - s1) * (r1 - s1) + (r2 - s2) * (r2 - s2)) := by grind
  have k6 : (99 / 25 : Rat) ≤ X * Y := by clear e hL hx2 hy2; grind
  refine ⟨k6, ?_⟩
  generalize r1 * s1 + r2 * s2 + p3 * p3 = T at *
  generalize r1 * r1 + r2 * r2 + p3 * p3 = R at *
  generalize s1 * s1 + s2 * s2 + p3 * p3 = S at *
  generalize (r1 - s1) * (r1 - s1) + (r2 - s2) * (r2 - s2) = L at *
  generalize X * Y = XY at *
  generalize X * X = XX at *
  generalize Y * Y = YY at *
  clear hX hY k1
  grind
end
end Go.Proofs.Ytfeciemlhiclbaa


namespace Go.Proofs.Ytfeciemlhiclbaa
open Go.RowKit

set_option maxRecDepth 20000
attribute [local irreducible] D9 D7 UU WW W9
section
variable {a b p : V3} {r1 r2 s1 s2 p3 X Y Q P W d v : Rat}
theorem cl_Q (hX : 199 / 100 ≤ X) (hY : 199 / 100 ≤ Y) (hW : 7 ≤ W) (hP : 99 / 25 ≤ X * Y) (hQ : Q * (X * Y * W) = X + Y) : 27 ≤ X * Y * W ∧ 0 ≤ Q ∧ Q ≤ 15 / 100 := by
  have k1 : 99 / 25 * W ≤ X * Y * W := Rat.mul_le_mul_of_nonneg_right hP (by grind)
  have k2 : X * Y * 7 ≤ X * Y * W := Rat.mul_le_mul_of_nonneg_left hW (by grind)
  have k3 : (199 / 100 : Rat) * Y ≤ X * Y := Rat.mul_le_mul_of_nonneg_right hX (by grind)
  have k4 : X * (199 / 100 : Rat) ≤ X * Y := Rat.mul_le_mul_of_nonneg_left hY (by grind)
  have k5 : 27 ≤ X * Y * W := by clear hQ k2 k3 k4; grind
  have h0 : 0 < X * Y * W := by clear hQ; grind
  refine ⟨k5, ?_, ?_⟩
  · refine Rat.le_of_mul_le_mul_right (c := X * Y * W) ?_ h0
    rw [hQ, Rat.zero_mul]
    clear hQ k1 k2 k3 k4
    grind
  · refine Rat.le_of_mul_le_mul_right (c := X * Y * W) ?_ h0
    rw [hQ]
    generalize X * Y * W = D at *
    generalize X * Y = XY at *
    clear hQ k1
    grind
theorem cl_d (h27 : 27 ≤ P * W) (h1 : P * W - 1076 * u24 * (P * W) ≤ v) (h2 : v ≤ P * W + 1076 * u24 * (P * W)) (h3 : Rg (d - v) ((1 + 2 * v) * u24)) : P * W - 1080 * u24 * (P * W) ≤ d ∧ d ≤ P * W + 1080 * u24 * (P * W) ∧ 26 ≤ d := by
  obtain ⟨g1, g2⟩ := h3
  generalize P * W = G at *
  have hu : 0 ≤ u24 := by decide +kernel
  have hu1 : 1080 * u24 ≤ 1 / 1000 := by decide +kernel
  have m1 : 27 * u24 ≤ G * u24 := Rat.mul_le_mul_of_nonneg_right h27 hu
  have m2 : 1080 * u24 * G ≤ 1 / 1000 * G := Rat.mul_le_mul_of_nonneg_right hu1 (by grind)
  have m3 : v * u24 ≤ (1001 / 1000 * G) * u24 := Rat.mul_le_mul_of_nonneg_right (by grind) hu
  refine ⟨by grind, by grind, by grind⟩
theorem cl_n1 (h1 : Rg p3 (25 / 4)) (h2 : Rg (r2 - s2) (3 / 4)) : Rg (r2 * p3 - p3 * s2) 5 := by
  have e : r2 * p3 - p3 * s2 = p3 * (r2 - s2) := by grind
  rw [e]; exact (rmul h1 h2).mono (by decide +kernel)
theorem cl_n2 (h1 : Rg p3 (25 / 4)) (h2 : Rg (r1 - s1) (3 / 4)) : Rg (p3 * s1 - r1 * p3) 5 := by
  have k := (rmul h1 h2).mono (B := 5) (by decide +kernel)
  obtain ⟨k1, k2⟩ := k
  constructor <;> grind
theorem cl_n3 (h1 : Rg r1 (13 / 4)) (h2 : Rg r2 (13 / 4)) (h3 : Rg (r1 - s1) (3 / 4)) (h4 : Rg (r2 - s2) (3 / 4)) : Rg (r1 * s2 - r2 * s1) 5 := by
  have e : r1 * s2 - r2 * s1 = r2 * (r1 - s1) - r1 * (r2 - s2) := by grind
  rw [e]; exact ((rmul h2 h3).sub (rmul h1 h4)).mono (by decide +kernel)
theorem rg_lo {X B c : Rat} (h1 : c ≤ X) (hc : 0 ≤ c) (h2 : X ≤ B) : Rg X B := ⟨by grind, h2⟩
theorem cl_big {v G : Rat} (h : v ≤ G + 1076 * u24 * G) (h0 : 27 ≤ G) (h1 : G ≤ 8000) : v ≤ 1000000000000000000 := by
  have := Rat.mul_le_mul_of_nonneg_right (show 1076 * u24 ≤ 1 by decide +kernel) (show 0 ≤ G by grind)
  grind
theorem cl_16 {n X Y d : Rat} (h : Rg (n - (X + Y)) (330 * u24)) (hx : X ≤ 8) (hy : Y ≤ 8) (hx1 : 199 / 100 ≤ X) (hy1 : 199 / 100 ≤ Y) (hd : 26 ≤ d) : -(1 * d) ≤ n ∧ n ≤ 1 * d := by
  obtain ⟨g1, g2⟩ := h
  have : 330 * u24 ≤ 1 := by decide +kernel
  constructor <;> grind
theorem cl_sp {n N e : Rat} (h : Rg (n - N) e) : N - e ≤ n ∧ n ≤ N + e := by
  obtain ⟨g1, g2⟩ := h
  constructor <;> grind
theorem cl_p0 {c d : Rat} (h : c ≤ d) (hc : 0 < c) : 0 < d := by grind
theorem seg_cl (hr : Cl3 (sub3 p a) r1 r2 p3) (hs : Cl3 (sub3 p b) s1 s2 p3) (hp : 2 ≤ p3) (hX0 : 0 ≤ X) (hY0 : 0 ≤ Y) (hx1 : r1 * r1 + r2 * r2 + p3 * p3 - 32 * u24 ≤ X * X) (hx2 : X * X ≤ r1 * r1 + r2 * r2 + p3 * p3 + 32 * u24) (hy1 : s1 * s1 + s2 * s2 + p3 * p3 - 32 * u24 ≤ Y * Y) (hy2 : Y * Y ≤ s1 * s1 + s2 * s2 + p3 * p3 + 32 * u24)
    (hL : (r1 - s1) * (r1 - s1) + (r2 - s2) * (r2 - s2) ≤ 3 / 5) (he1 : Rg (r1 - s1) (3 / 4)) (he2 : Rg (r2 - s2) (3 / 4)) (hQ : Q * (X * Y * (X * Y + (r1 * s1 + r2 * s2 + p3 * p3))) = X + Y) :
    nr3 (segF a b p) ((r2 * p3 - p3 * s2) * Q) ((p3 * s1 - r1 * p3) * Q) ((r1 * s2 - r2 * s1) * Q) (1300 * u24) ∧ Rg3 ((r2 * p3 - p3 * s2) * Q) ((p3 * s1 - r1 * p3) * Q) ((r1 * s2 - r2 * s1) * Q) 1 := by
  have X1 := cl_far hp hX0 hx1
  have Y1 := cl_far hp hY0 hy1
  have X8 := cl_near hr hx2
  have Y8 := cl_near hs hy2
  have hx := cl_long hr X1 hx1 hx2
  have hy := cl_long hs Y1 hy1 hy2
  obtain ⟨P1, W1⟩ := cl_W X1 Y1 hL hx2 hy2
  obtain ⟨hT, bT⟩ := cl_inner hr hs
  have hN := cl_cross hr hs
  have bN1 := cl_n1 hr.bz he2
  have bN2 := cl_n2 hr.bz he1
  have bN3 := cl_n3 hr.bx hr.by' he1 he2
  have rx : Rg X 8 := rg_lo X1 (by decide +kernel) X8
  have ry : Rg Y 8 := rg_lo Y1 (by decide +kernel) Y8
  clear hx1 hx2 hy1 hy2 hL he1 he2 hr hs hX0 hY0 hp
  generalize r1 * s1 + r2 * s2 + p3 * p3 = T at *
  generalize r2 * p3 - p3 * s2 = N1 at *
  generalize p3 * s1 - r1 * p3 = N2 at *
  generalize r1 * s2 - r2 * s1 = N3 at *
  have hxy := nr_mul hx hy rx ry (G := 2470 * u24) (by decide +kernel) (by decide +kernel)
  have hw := nr_add hxy hT (((rmul rx ry).add bT).mono (B := 125) (by decide +kernel)) (G := 3150 * u24) (by decide +kernel) (by decide +kernel)
  have hn := nr_add hx hy ((rx.add ry).mono (B := 16) (by decide +kernel)) (G := 330 * u24) (by decide +kernel) (by decide +kernel)
  obtain ⟨D1, Q0, Q1⟩ := cl_Q X1 Y1 W1 P1 hQ
  obtain ⟨p', p1, p2⟩ := hxy
  obtain ⟨w', w1, w2⟩ := hw
  obtain ⟨m1, m2, m3, m4⟩ := cl_mul P1 W1 p2 w2
  have hpw : 0 ≤ p' * w' := Rat.mul_nonneg m3 m4
  have hbig : X * Y * (X * Y + T) ≤ 8000 := by
    have := rmul (rmul rx ry) (((rmul rx ry).add bT).mono (B := 125) (by decide +kernel))
    exact Rat.le_trans this.2 (by decide +kernel)
  have hpb : p' * w' ≤ 1000000000000000000 := cl_big m2 D1 hbig
  obtain ⟨d', d1, d2⟩ := rd_mul p1 w1 (B := p' * w') (rg_lo hpw Rat.le_refl Rat.le_refl) hpb
  obtain ⟨c1, c2, c3⟩ := cl_d D1 m1 m2 d2
  obtain ⟨n', n1, n2⟩ := hn
  have hd0 : 0 < d' := cl_p0 c3 (by decide +kernel)
  have hn16 := cl_16 n2 X8 Y8 X1 Y1 c3
  obtain ⟨z, z1, z2, z3⟩ := rd_quo n1 d1 hd0 hn16.1 hn16.2 (by decide +kernel) (by decide +kernel)
  have e10 : (2 : Rat) * (1 + 4 * 1) * u24 = 10 * u24 := by decide +kernel
  rw [e10] at z2 z3
  have hz := cl_quo D1 hQ Q0 Q1 c1 c2 (cl_sp n2).1 (cl_sp n2).2 z2 z3
  have hq : nr (segQ a b p) Q (250 * u24) := ⟨z, z1, hz⟩
  have rq : Rg Q (15 / 100) := rg_lo Q0 Rat.le_refl Q1
  have hgt : fcmp .gtr .f32 (segD a b p) 0 = true := qv_gt d1 qv_zero hd0
  have hfin : fin (segQ a b p) = true := qv_fin z1
  rw [segF_yes hgt hfin]
  exact ⟨⟨nr_mul hN.x hq bN1 rq (by decide +kernel) (by decide +kernel), nr_mul hN.y hq bN2 rq (by decide +kernel) (by decide +kernel), nr_mul hN.z hq bN3 rq (by decide +kernel) (by decide +kernel)⟩,
    ⟨(rmul bN1 rq).mono (by decide +kernel), (rmul bN2 rq).mono (by decide +kernel), (rmul bN3 rq).mono (by decide +kernel)⟩⟩
end
end Go.Proofs.Ytfeciemlhiclbaa


namespace Go.Proofs.Ytfeciemlhiclbaa

set_option maxRecDepth 100000
/-- Square of p sixteenths less two, less a coordinate (a is it, in 2^-25, plus two), in 2^-50. -/
def ff_sq (p a : Nat) : Nat := p * 2097152 * (p * 2097152) + a * a - 2 * (p * 2097152) * a
def ff_R (ax ay p q s : Nat) : Nat := ff_sq p ax + ff_sq q ay + (s + 32) * (s + 32) * 4398046511104
def ff_N (n g : Nat) : Nat := (g + n / g) / 2
/-- A root, in 2^-25. -/
def ff_X (ax ay p q s : Nat) : Nat := ff_N (ff_R ax ay p q s) (ff_N (ff_R ax ay p q s) (ff_N (ff_R ax ay p q s) (ff_N (ff_R ax ay p q s) (ff_N (ff_R ax ay p q s) 150994944))))
def ff_ok (ax ay p q s : Nat) : Bool := Nat.ble (ff_X ax ay p q s * ff_X ax ay p q s) (ff_R ax ay p q s + 2147483648) && Nat.ble (ff_R ax ay p q s) (ff_X ax ay p q s * ff_X ax ay p q s + 2147483648)
def ff_D (X Y R S : Nat) : Nat := X * Y * (2 * (X * Y) + R + S - 659536884266312)
/-- What stands before the product of a segment, in 2^-40. -/
def ff_Q (ax ay bx y' p q s : Nat) : Nat := (ff_X ax ay p q s + ff_X bx y' p q s) * 83076749736557242056487941267521536 / ff_D (ff_X ax ay p q s) (ff_X bx y' p q s) (ff_R ax ay p q s) (ff_R bx y' p q s)
def ff_0 (p q s : Nat) : Nat := ff_Q 100663296 67108864 90835430 90835430 p q s
def ff_1 (p q s : Nat) : Nat := ff_Q 90835430 90835430 67108864 100663296 p q s
def ff_2 (p q s : Nat) : Nat := ff_Q 67108864 100663296 43382298 90835430 p q s
def ff_3 (p q s : Nat) : Nat := ff_Q 43382298 90835430 33554432 67108864 p q s
def ff_4 (p q s : Nat) : Nat := ff_Q 33554432 67108864 43382298 43382298 p q s
def ff_5 (p q s : Nat) : Nat := ff_Q 43382298 43382298 67108864 33554432 p q s
def ff_6 (p q s : Nat) : Nat := ff_Q 67108864 33554432 90835430 43382298 p q s
def ff_7 (p q s : Nat) : Nat := ff_Q 90835430 43382298 100663296 67108864 p q s
def ff_G (p q s : Nat) : Nat := ff_0 p q s + ff_1 p q s + ff_2 p q s + ff_3 p q s + ff_4 p q s + ff_5 p q s + ff_6 p q s + ff_7 p q s
/-- Sums with the sides' coordinates, plus one. -/
def ff_U (p q s : Nat) : Nat := ff_0 p q s * 43382298 + ff_1 p q s * 57280998 + ff_2 p q s * 57280998 + ff_3 p q s * 43382298 + ff_4 p q s * 23726566 + ff_5 p q s * 9827866 + ff_6 p q s * 9827866 + ff_7 p q s * 23726566
def ff_V (p q s : Nat) : Nat := ff_0 p q s * 9827866 + ff_1 p q s * 23726566 + ff_2 p q s * 43382298 + ff_3 p q s * 57280998 + ff_4 p q s * 57280998 + ff_5 p q s * 43382298 + ff_6 p q s * 23726566 + ff_7 p q s * 9827866
def ff_px (p q s : Nat) : Nat := (s + 32) * 33554432 * ff_G p q s
def ff_nx (p q s : Nat) : Nat := (s + 32) * ff_V p q s
def ff_py (p q s : Nat) : Nat := (s + 32) * ff_U p q s
def ff_pz (p q s : Nat) : Nat := p * ff_V p q s + q * 33554432 * ff_G p q s + 32 * ff_U p q s + 379625056 * ff_G p q s
def ff_nz (p q s : Nat) : Nat := p * 33554432 * ff_G p q s + 32 * ff_V p q s + q * ff_U p q s
def ff_8 (f : Nat → Nat → Nat → Nat) (a b c d e g : Nat) : Nat := f a c e + f a c g + f a d e + f a d g + f b c e + f b c g + f b d e + f b d g
def ff_near (P N p n t : Nat) : Bool := Nat.ble (P + 8 * n) (N + 8 * p + t) && Nat.ble (N + 8 * p) (P + 8 * n + t)
/-- In the middle of a cell. -/
def ff_mid (a b c d e g m k h : Nat) : Bool :=
  ff_near (ff_8 ff_px a b c d e g) (ff_8 ff_nx a b c d e g) (ff_px m k h) (ff_nx m k h) 47223664828696452136 &&
  ff_near (ff_8 ff_py a b c d e g) (ff_8 ff_px a b c d e g) (ff_py m k h) (ff_px m k h) 47223664828696452136 &&
  ff_near (ff_8 ff_pz a b c d e g) (ff_8 ff_nz a b c d e g) (ff_pz m k h) (ff_nz m k h) 47223664828696452136
/-- Sources at the middle node of a mesh. -/
def ff_src (a i b c j d e k g : Nat) : Bool :=
  Nat.ble (ff_px b j k + ff_nx a j k + ff_py i d k + ff_px i c k + ff_pz i j g + ff_nz i j e) (ff_nx b j k + ff_px a j k + ff_px i d k + ff_py i c k + ff_nz i j g + ff_pz i j e + 4427218577690292387) &&
  Nat.ble (ff_nx b j k + ff_px a j k + ff_px i d k + ff_py i c k + ff_nz i j g + ff_pz i j e) (ff_px b j k + ff_nx a j k + ff_py i d k + ff_px i c k + ff_pz i j g + ff_nz i j e + 4427218577690292387)
def ff_oks (p q s : Nat) : Bool := ff_ok 100663296 67108864 p q s && ff_ok 90835430 90835430 p q s && ff_ok 67108864 100663296 p q s && ff_ok 43382298 90835430 p q s && ff_ok 33554432 67108864 p q s && ff_ok 43382298 43382298 p q s && ff_ok 67108864 33554432 p q s && ff_ok 90835430 43382298 p q s
def ff_ok3 (a b c q s : Nat) : Bool := ff_oks a q s && ff_oks b q s && ff_oks c q s
def ff_ok9 (a b c d e f s : Nat) : Bool := ff_ok3 a b c d s && ff_ok3 a b c e s && ff_ok3 a b c f s
/-- Nine meshes' places along a direction. -/
def ff_tri : List (Nat × Nat × Nat × Nat × Nat) := [(32, 33, 34, 35, 36), (36, 37, 38, 39, 40), (40, 41, 42, 43, 44), (44, 45, 46, 47, 48), (48, 49, 50, 51, 52), (52, 53, 54, 55, 56), (56, 57, 58, 59, 60), (60, 61, 62, 63, 64), (64, 65, 66, 67, 68)]
/-- A mesh: its eight cells, its middle. -/
def ff_mesh : Nat × Nat × Nat × Nat × Nat → Nat × Nat × Nat × Nat × Nat → Nat × Nat × Nat × Nat × Nat → Bool
  | (a, m, i, n, b), (c, k, j, l, d), (e, h, f, o, g) =>
    ff_ok9 a i b c j d e && ff_ok9 a i b c j d f && ff_ok9 a i b c j d g && ff_oks m k h && ff_oks m k o && ff_oks m l h && ff_oks m l o && ff_oks n k h && ff_oks n k o && ff_oks n l h && ff_oks n l o &&
    ff_mid a i c j e f m k h && ff_mid a i c j f g m k o && ff_mid a i j d e f m l h && ff_mid a i j d f g m l o &&
    ff_mid i b c j e f n k h && ff_mid i b c j f g n k o && ff_mid i b j d e f n l h && ff_mid i b j d f g n l o && ff_src a i b c j d e f g
def ff_all (z : Nat × Nat × Nat × Nat × Nat) : Bool := ff_tri.all fun x => ff_tri.all fun y => ff_mesh x y z
end Go.Proofs.Ytfeciemlhiclbaa


namespace Go.Proofs.Ytfeciemlhiclbaa
open Go.RowKit

set_option maxRecDepth 20000
attribute [local irreducible] D9 D7 UU WW W9
def k25 : Rat := 1 / 33554432
def k40 : Rat := 1 / 1099511627776
section
variable {P A B : V3} {d1 d2 e1 e2 z x y R S Q : Rat}
theorem k25_cc (a b : Rat) : a * k25 * (b * k25) = a * b * (k25 * k25) := by grind
theorem tab_root (hR : R = d1 * d1 + d2 * d2 + z * z) (h1 : x * x ≤ R + 2147483648) (h2 : R ≤ x * x + 2147483648) :
    d1 * k25 * (d1 * k25) + d2 * k25 * (d2 * k25) + z * k25 * (z * k25) - 32 * u24 ≤ x * k25 * (x * k25) ∧ x * k25 * (x * k25) ≤ d1 * k25 * (d1 * k25) + d2 * k25 * (d2 * k25) + z * k25 * (z * k25) + 32 * u24 := by
  have hk : 0 ≤ k25 * k25 := by decide +kernel
  have e : 32 * u24 = 2147483648 * (k25 * k25) := by decide +kernel
  rw [e, k25_cc, k25_cc, k25_cc, k25_cc]
  have m1 := Rat.mul_le_mul_of_nonneg_right h1 hk
  have m2 := Rat.mul_le_mul_of_nonneg_right h2 hk
  generalize k25 * k25 = k at *
  rw [hR] at m1 m2
  clear hR h1 h2 e
  constructor <;> grind
/-- A number beside its floor. -/
theorem tab_floor {f : Nat} {N q Q : Rat} (h : nr f (N * q) (1300 * u24)) (hN : Rg N 5) (h1 : Q * k40 ≤ q) (h2 : q ≤ (Q + 1) * k40) : nr f (N * (Q * k40)) (1301 * u24) := by
  obtain ⟨w, w1, w2⟩ := h
  refine ⟨w, w1, ?_⟩
  have k1 : Rg (q - Q * k40) k40 := by
    have : 0 ≤ k40 := by decide +kernel
    constructor <;> grind
  have k2 := rmul hN k1
  have e : 5 * k40 ≤ u24 := by decide +kernel
  obtain ⟨a1, a2⟩ := w2
  obtain ⟨b1, b2⟩ := k2
  constructor <;> grind
theorem tab_q (hD : 0 < x * y * (2 * (x * y) + R + S - 659536884266312)) (hq1 : Q * (x * y * (2 * (x * y) + R + S - 659536884266312)) ≤ (x + y) * 83076749736557242056487941267521536) (hq2 : (x + y) * 83076749736557242056487941267521536 ≤ (Q + 1) * (x * y * (2 * (x * y) + R + S - 659536884266312)))
    {q W : Rat} (hW : W = (2 * (x * y) + R + S - 659536884266312) / 2 * (k25 * k25)) (hq : q * (x * k25 * (y * k25) * W) = x * k25 + y * k25) : Q * k40 ≤ q ∧ q ≤ (Q + 1) * k40 := by
  have e : q * (x * y * (2 * (x * y) + R + S - 659536884266312)) = (x + y) * 83076749736557242056487941267521536 * k40 := by
    rw [hW] at hq
    have e1 : q * (x * k25 * (y * k25) * ((2 * (x * y) + R + S - 659536884266312) / 2 * (k25 * k25))) = q * (x * y * (2 * (x * y) + R + S - 659536884266312)) * (k25 * k25 * k25 * k25 / 2) := by grind
    rw [e1] at hq
    have e2 : x * k25 + y * k25 = (x + y) * k25 := by grind
    rw [e2] at hq
    have e3 : k25 = 83076749736557242056487941267521536 * k40 * (k25 * k25 * k25 * k25 / 2) := by decide +kernel
    have e4 : (x + y) * k25 = (x + y) * 83076749736557242056487941267521536 * k40 * (k25 * k25 * k25 * k25 / 2) := by
      have := congrArg (fun t => (x + y) * t) e3
      simp only [← Rat.mul_assoc] at this ⊢
      exact this
    rw [e4] at hq
    have hk : 0 < k25 * k25 * k25 * k25 / 2 := by decide +kernel
    exact Rat.le_antisymm (Rat.le_of_mul_le_mul_right (by rw [hq]; exact Rat.le_refl) hk) (Rat.le_of_mul_le_mul_right (by rw [hq]; exact Rat.le_refl) hk)
  have hk : 0 ≤ k40 := by decide +kernel
  have m1 := Rat.mul_le_mul_of_nonneg_right hq1 hk
  have m2 := Rat.mul_le_mul_of_nonneg_right hq2 hk
  rw [← e] at m1 m2
  generalize x * y * (2 * (x * y) + R + S - 659536884266312) = D at *
  exact ⟨Rat.le_of_mul_le_mul_right (c := D) (by clear hq; grind) hD, Rat.le_of_mul_le_mul_right (c := D) (by clear hq; grind) hD⟩
theorem tab_core (hQ0 : 0 ≤ Q) (hr : Cl3 (sub3 P A) (d1 * k25) (d2 * k25) (z * k25)) (hs : Cl3 (sub3 P B) (e1 * k25) (e2 * k25) (z * k25)) (hz : 67108864 ≤ z) (hR : R = d1 * d1 + d2 * d2 + z * z) (hS : S = e1 * e1 + e2 * e2 + z * z) (hx0 : 0 ≤ x) (hy0 : 0 ≤ y) (hx1 : x * x ≤ R + 2147483648) (hx2 : R ≤ x * x + 2147483648) (hy1 : y * y ≤ S + 2147483648) (hy2 : S ≤ y * y + 2147483648)
    (hL : (d1 - e1) * (d1 - e1) + (d2 - e2) * (d2 - e2) = 659536884266312) (he1 : Rg (d1 - e1) 25165824) (he2 : Rg (d2 - e2) 25165824)
    (hq1 : Q * (x * y * (2 * (x * y) + R + S - 659536884266312)) ≤ (x + y) * 83076749736557242056487941267521536) (hq2 : (x + y) * 83076749736557242056487941267521536 ≤ (Q + 1) * (x * y * (2 * (x * y) + R + S - 659536884266312))) :
    nr3 (segF A B P) ((d2 - e2) * z * (k25 * k25) * (Q * k40)) (-((d1 - e1) * z) * (k25 * k25) * (Q * k40)) ((d1 * e2 - d2 * e1) * (k25 * k25) * (Q * k40)) (1301 * u24) ∧ Rg3 ((d2 - e2) * z * (k25 * k25) * (Q * k40)) (-((d1 - e1) * z) * (k25 * k25) * (Q * k40)) ((d1 * e2 - d2 * e1) * (k25 * k25) * (Q * k40)) 1 := by
  obtain ⟨x1, x2⟩ := tab_root hR hx1 hx2
  obtain ⟨y1, y2⟩ := tab_root hS hy1 hy2
  have hk : 0 ≤ k25 := by decide +kernel
  have hX0 : 0 ≤ x * k25 := Rat.mul_nonneg hx0 hk
  have hY0 : 0 ≤ y * k25 := Rat.mul_nonneg hy0 hk
  have hp : 2 ≤ z * k25 := by
    have := Rat.mul_le_mul_of_nonneg_right hz hk
    rwa [show (67108864 : Rat) * k25 = 2 by decide +kernel] at this
  have e1' : d1 * k25 - e1 * k25 = (d1 - e1) * k25 := by grind
  have e2' : d2 * k25 - e2 * k25 = (d2 - e2) * k25 := by grind
  have hLk : (d1 * k25 - e1 * k25) * (d1 * k25 - e1 * k25) + (d2 * k25 - e2 * k25) * (d2 * k25 - e2 * k25) ≤ 3 / 5 := by
    rw [e1', e2', k25_cc, k25_cc, ← Rat.add_mul, hL]; decide +kernel
  have hk9 : Rg k25 k25 := ⟨by decide +kernel, Rat.le_refl⟩
  have g1 : Rg (d1 * k25 - e1 * k25) (3 / 4) := by rw [e1']; exact (rmul he1 hk9).mono (by decide +kernel)
  have g2 : Rg (d2 * k25 - e2 * k25) (3 / 4) := by rw [e2']; exact (rmul he2 hk9).mono (by decide +kernel)
  have X1 := cl_far hp hX0 x1
  have Y1 := cl_far hp hY0 y1
  obtain ⟨P1, W1⟩ := cl_W X1 Y1 hLk x2 y2
  obtain ⟨W, hW⟩ : ∃ W, W = x * k25 * (y * k25) + (d1 * k25 * (e1 * k25) + d2 * k25 * (e2 * k25) + z * k25 * (z * k25)) := ⟨_, rfl⟩
  rw [← hW] at W1
  have hPW : 0 < x * k25 * (y * k25) * W := Rat.mul_pos (cl_p0 P1 (by decide +kernel)) (cl_p0 W1 (by decide +kernel))
  have hW2 : W = (2 * (x * y) + R + S - 659536884266312) / 2 * (k25 * k25) := by
    rw [hW, k25_cc, k25_cc, k25_cc, k25_cc, hR, hS, ← hL]
    generalize k25 * k25 = k
    grind
  obtain ⟨q, hq⟩ : ∃ q, q * (x * k25 * (y * k25) * W) = x * k25 + y * k25 := ⟨(x * k25 + y * k25) / (x * k25 * (y * k25) * W), Rat.div_mul_cancel (Rat.ne_of_gt hPW)⟩
  have hD : 0 < x * y * (2 * (x * y) + R + S - 659536884266312) := by
    have e : x * k25 * (y * k25) * W = x * y * (2 * (x * y) + R + S - 659536884266312) * (k25 * k25 * k25 * k25 / 2) := by rw [hW2]; grind
    rw [e] at hPW
    have hk4 : 0 < k25 * k25 * k25 * k25 / 2 := by decide +kernel
    exact Rat.lt_of_mul_lt_mul_right (by rw [Rat.zero_mul]; exact hPW) (Rat.le_of_lt hk4)
  obtain ⟨q1, q2⟩ := tab_q hD hq1 hq2 hW2 hq
  obtain ⟨_, _, q15⟩ := cl_Q X1 Y1 W1 P1 hq
  have rq : Rg (Q * k40) (15 / 100) := rg_lo (Rat.mul_nonneg hQ0 (by decide +kernel)) Rat.le_refl (Rat.le_trans q1 q15)
  have key := (seg_cl hr hs hp hX0 hY0 x1 x2 y1 y2 hLk g1 g2 (Q := q) (by rw [← hW]; exact hq)).1
  have n1 := cl_n1 hr.bz g2
  have n2 := cl_n2 hr.bz g1
  have n3 := cl_n3 hr.bx hr.by' g1 g2
  have f1 : d2 * k25 * (z * k25) - z * k25 * (e2 * k25) = (d2 - e2) * z * (k25 * k25) := by grind
  have f2 : z * k25 * (e1 * k25) - d1 * k25 * (z * k25) = -((d1 - e1) * z) * (k25 * k25) := by grind
  have f3 : d1 * k25 * (e2 * k25) - d2 * k25 * (e1 * k25) = (d1 * e2 - d2 * e1) * (k25 * k25) := by grind
  rw [f1] at n1 key
  rw [f2] at n2 key
  rw [f3] at n3 key
  exact ⟨⟨tab_floor key.x n1 q1 q2, tab_floor key.y n2 q1 q2, tab_floor key.z n3 q1 q2⟩, ⟨(rmul n1 rq).mono (by decide +kernel), (rmul n2 rq).mono (by decide +kernel), (rmul n3 rq).mono (by decide +kernel)⟩⟩
end
end Go.Proofs.Ytfeciemlhiclbaa


namespace Go.Proofs.Ytfeciemlhiclbaa
open Go.RowKit

set_option maxRecDepth 20000
attribute [local irreducible] D9 D7 UU WW W9 segF fop
def k69 : Rat := 1 / 590295810358705651712
/-- A place of the table, as words. -/
structure Lat (P : V3) (p q s : Nat) : Prop where
  x : qv P.1 ((((p : Int) * 2097152 - 67108864 : Int) : Rat) * k25)
  y : qv P.2.1 ((((q : Int) * 2097152 - 67108864 : Int) : Rat) * k25)
  z : qv P.2.2 (((((s : Int) + 32) * 2097152 : Int) : Rat) * k25)
  z0 : qv (fop .sub .f32 P.2.2 0) (((((s : Int) + 32) * 2097152 : Int) : Rat) * k25)
  p68 : p ≤ 68
  q68 : q ≤ 68
  s68 : s ≤ 68
  ok : ff_oks p q s = true
/-- A point of the ring, as words. -/
structure Vx (A : V3) (ax ay : Nat) : Prop where
  x : qv A.1 ((((ax : Int) - 67108864 : Int) : Rat) * k25)
  y : qv A.2.1 ((((ay : Int) - 67108864 : Int) : Rat) * k25)
  z : A.2.2 = 0
  x0 : 33554432 ≤ ax
  x1 : ax ≤ 100663296
  y0 : 33554432 ≤ ay
  y1 : ay ≤ 100663296
theorem ff_sq_int (p a : Nat) : ((ff_sq p a : Nat) : Int) = ((p : Int) * 2097152 - a) * ((p : Int) * 2097152 - a) := by
  have h0 : 0 ≤ ((p : Int) * 2097152 - a) * ((p : Int) * 2097152 - a) := by
    rw [← Int.natAbs_mul_self (a := (p : Int) * 2097152 - a)]
    exact Int.natCast_nonneg _
  unfold ff_sq
  have e : ((p : Int) * 2097152 - a) * ((p : Int) * 2097152 - a) = (p : Int) * 2097152 * (p * 2097152) + a * a - 2 * (p * 2097152) * a := by grind
  rw [e] at h0 ⊢
  have c1 : ((p * 2097152 * (p * 2097152) + a * a : Nat) : Int) = (p : Int) * 2097152 * (p * 2097152) + a * a := by simp only [Int.natCast_add, Int.natCast_mul]; rfl
  have c2 : ((2 * (p * 2097152) * a : Nat) : Int) = 2 * ((p : Int) * 2097152) * a := by simp only [Int.natCast_mul]; rfl
  have h1 : 2 * (p * 2097152) * a ≤ p * 2097152 * (p * 2097152) + a * a := by
    have : (((2 * (p * 2097152) * a : Nat)) : Int) ≤ ((p * 2097152 * (p * 2097152) + a * a : Nat) : Int) := by rw [c1, c2]; omega
    omega
  rw [Int.ofNat_sub h1, c1, c2]
theorem ff_R_int (ax ay p q s : Nat) : ((ff_R ax ay p q s : Nat) : Int) = ((p : Int) * 2097152 - ax) * ((p : Int) * 2097152 - ax) + ((q : Int) * 2097152 - ay) * ((q : Int) * 2097152 - ay) + ((s : Int) + 32) * 2097152 * (((s : Int) + 32) * 2097152) := by
  unfold ff_R
  have c1 : (((s + 32) * (s + 32) * 4398046511104 : Nat) : Int) = ((s : Int) + 32) * (s + 32) * 4398046511104 := by simp only [Int.natCast_add, Int.natCast_mul]; rfl
  rw [Int.natCast_add, Int.natCast_add, ff_sq_int, ff_sq_int, c1]
  grind
theorem ff_ok_is {ax ay p q s : Nat} (h : ff_ok ax ay p q s = true) : ff_X ax ay p q s * ff_X ax ay p q s ≤ ff_R ax ay p q s + 2147483648 ∧ ff_R ax ay p q s ≤ ff_X ax ay p q s * ff_X ax ay p q s + 2147483648 := by
  unfold ff_ok at h
  rw [Bool.and_eq_true] at h
  exact ⟨Nat.le_of_ble_eq_true h.1, Nat.le_of_ble_eq_true h.2⟩
theorem ff_R_big (ax ay p q s : Nat) : 4503599627370496 ≤ ff_R ax ay p q s := by
  unfold ff_R
  have : 32 * 32 * 4398046511104 ≤ (s + 32) * (s + 32) * 4398046511104 := Nat.mul_le_mul_right _ (Nat.mul_le_mul (by omega) (by omega))
  omega
section
variable {P A B : V3} {p q s ax ay bx b' : Nat}
theorem Lat.cl (h : Lat P p q s) (hA : Vx A ax ay) : Cl3 (sub3 P A) ((((p : Int) * 2097152 - ax : Int) : Rat) * k25) ((((q : Int) * 2097152 - ay : Int) : Rat) * k25) (((((s : Int) + 32) * 2097152 : Int) : Rat) * k25) := by
  have key : ∀ {x a : Nat} {p ax : Nat}, qv x ((((p : Int) * 2097152 - 67108864 : Int) : Rat) * k25) → qv a ((((ax : Int) - 67108864 : Int) : Rat) * k25) → p ≤ 68 → 33554432 ≤ ax → ax ≤ 100663296 → nr (fop .sub .f32 x a) ((((p : Int) * 2097152 - ax : Int) : Rat) * k25) (8 * u24) ∧ Rg ((((p : Int) * 2097152 - ax : Int) : Rat) * k25) (13 / 4) := by
    intro x a p ax hx ha hp h0 h1
    have e : (((p : Int) * 2097152 - ax : Int) : Rat) * k25 = (((p : Int) * 2097152 - 67108864 : Int) : Rat) * k25 - (((ax : Int) - 67108864 : Int) : Rat) * k25 := by
      simp only [Rat.intCast_sub, Rat.intCast_mul]
      grind
    have hb : Rg ((((p : Int) * 2097152 - ax : Int) : Rat) * k25) (13 / 4) := by
      have q1 := Rat.intCast_le_intCast.2 (show (p : Int) * 2097152 - ax ≤ 109051904 by omega)
      have q2 := Rat.intCast_le_intCast.2 (show (-109051904 : Int) ≤ (p : Int) * 2097152 - ax by omega)
      have hk : 0 ≤ k25 := by decide +kernel
      have m1 := Rat.mul_le_mul_of_nonneg_right q1 hk
      have m2 := Rat.mul_le_mul_of_nonneg_right q2 hk
      rw [show ((109051904 : Int) : Rat) * k25 = 13 / 4 by decide +kernel] at m1
      rw [show ((-109051904 : Int) : Rat) * k25 = -(13 / 4) by decide +kernel] at m2
      exact ⟨m2, m1⟩
    refine ⟨?_, hb⟩
    rw [e] at hb ⊢
    exact nr_sub (.of hx) (.of ha) hb (by decide +kernel) (by decide +kernel)
  obtain ⟨a1, b1⟩ := key h.x hA.x h.p68 hA.x0 hA.x1
  obtain ⟨a2, b2⟩ := key h.y hA.y h.q68 hA.y0 hA.y1
  refine ⟨a1, a2, ?_, b1, b2, ?_⟩
  · show nr (fop .sub .f32 P.2.2 A.2.2) _ 0
    rw [hA.z]; exact .of h.z0
  · have h68 := h.s68
    have q1 := Rat.intCast_le_intCast.2 (show ((s : Int) + 32) * 2097152 ≤ 209715200 by omega)
    have q2 := Rat.intCast_le_intCast.2 (show (-209715200 : Int) ≤ ((s : Int) + 32) * 2097152 by omega)
    have hk : 0 ≤ k25 := by decide +kernel
    have m1 := Rat.mul_le_mul_of_nonneg_right q1 hk
    have m2 := Rat.mul_le_mul_of_nonneg_right q2 hk
    rw [show ((209715200 : Int) : Rat) * k25 = 25 / 4 by decide +kernel] at m1
    rw [show ((-209715200 : Int) : Rat) * k25 = -(25 / 4) by decide +kernel] at m2
    exact ⟨m2, m1⟩
theorem natq {n : Nat} {z : Int} (h : (n : Int) = z) : (n : Rat) = (z : Rat) := by
  have : (n : Rat) = ((n : Int) : Rat) := rfl
  rw [this, h]
theorem ge_q {m n : Nat} (h : m ≤ n) : (m : Rat) ≤ (n : Rat) := Rat.natCast_le_natCast.2 h
theorem seg_tab (h : Lat P p q s) (hA : Vx A ax ay) (hB : Vx B bx b') (ka : ff_ok ax ay p q s = true) (kb : ff_ok bx b' p q s = true)
    (hL : ((bx : Int) - ax) * (bx - ax) + ((b' : Int) - ay) * (b' - ay) = 659536884266312) (h1 : ((bx : Int) - ax).natAbs ≤ 25165824) (h2 : ((b' : Int) - ay).natAbs ≤ 25165824) (hc : ((ax : Int) - 67108864) * (b' - 67108864) - ((ay : Int) - 67108864) * (bx - 67108864) = 379625056 * 2097152) :
    nr3 (segF A B P) (((((s : Int) + 32) * (b' - ay) * (ff_Q ax ay bx b' p q s : Nat) : Int) : Rat) * k69) (((((s : Int) + 32) * (ax - bx) * (ff_Q ax ay bx b' p q s : Nat) : Int) : Rat) * k69) (((((p : Int) - 32) * (ay - b') - ((q : Int) - 32) * (ax - bx) + 379625056) * (ff_Q ax ay bx b' p q s : Nat) : Int) * k69) (1301 * u24) ∧ Rg3 (((((s : Int) + 32) * (b' - ay) * (ff_Q ax ay bx b' p q s : Nat) : Int) : Rat) * k69) (((((s : Int) + 32) * (ax - bx) * (ff_Q ax ay bx b' p q s : Nat) : Int) : Rat) * k69) (((((p : Int) - 32) * (ay - b') - ((q : Int) - 32) * (ax - bx) + 379625056) * (ff_Q ax ay bx b' p q s : Nat) : Int) * k69) 1 := by
  obtain ⟨xa1, xa2⟩ := ff_ok_is ka
  obtain ⟨xb1, xb2⟩ := ff_ok_is kb
  have hRi := natq (ff_R_int ax ay p q s)
  have hSi := natq (ff_R_int bx b' p q s)
  have hRb := ff_R_big ax ay p q s
  have hSb := ff_R_big bx b' p q s
  have hQ : ff_Q ax ay bx b' p q s = (ff_X ax ay p q s + ff_X bx b' p q s) * 83076749736557242056487941267521536 / ff_D (ff_X ax ay p q s) (ff_X bx b' p q s) (ff_R ax ay p q s) (ff_R bx b' p q s) := rfl
  have c1 := h.cl hA
  have c2 := h.cl hB
  generalize ff_Q ax ay bx b' p q s = Q at *
  generalize ff_X ax ay p q s = X at *
  generalize ff_X bx b' p q s = Y at *
  generalize ff_R ax ay p q s = R at *
  generalize ff_R bx b' p q s = S at *
  have hX0 : 0 < X := by
    rcases Nat.eq_zero_or_pos X with h0 | h0
    · subst h0; omega
    · exact h0
  have hY0 : 0 < Y := by
    rcases Nat.eq_zero_or_pos Y with h0 | h0
    · subst h0; omega
    · exact h0
  have hD0 : 0 < ff_D X Y R S := by
    unfold ff_D
    exact Nat.mul_pos (Nat.mul_pos hX0 hY0) (by omega)
  have d1 : Q * ff_D X Y R S ≤ (X + Y) * 83076749736557242056487941267521536 := by rw [hQ]; exact Nat.div_mul_le_self _ _
  have d2 : (X + Y) * 83076749736557242056487941267521536 ≤ (Q + 1) * ff_D X Y R S := by
    rw [hQ, Nat.mul_comm (_ + 1)]
    exact Nat.le_of_lt (Nat.lt_mul_div_succ _ hD0)
  have eD : ((ff_D X Y R S : Nat) : Rat) = (X : Rat) * Y * (2 * ((X : Rat) * Y) + R + S - 659536884266312) := by
    unfold ff_D
    have hsub : ((2 * (X * Y) + R + S - 659536884266312 : Nat) : Rat) = 2 * ((X : Rat) * Y) + R + S - 659536884266312 := by
      have e : 2 * (X * Y) + R + S - 659536884266312 + 659536884266312 = 2 * (X * Y) + R + S := by omega
      have e2 := congrArg (fun n : Nat => (n : Rat)) e
      simp only [Rat.natCast_add, Rat.natCast_mul] at e2
      have e3 : ((659536884266312 : Nat) : Rat) = 659536884266312 := rfl
      have e4 : ((2 : Nat) : Rat) = 2 := rfl
      rw [e3, e4] at e2
      grind
    rw [Rat.natCast_mul, Rat.natCast_mul, hsub]
  have r1 := ge_q d1
  have r2 := ge_q d2
  rw [Rat.natCast_mul, Rat.natCast_mul, Rat.natCast_add, eD] at r1
  rw [Rat.natCast_mul, Rat.natCast_mul, Rat.natCast_add, Rat.natCast_add, eD] at r2
  have x1 := ge_q xa1
  have x2 := ge_q xa2
  have y1 := ge_q xb1
  have y2 := ge_q xb2
  rw [Rat.natCast_mul, Rat.natCast_add] at x1 y1
  rw [Rat.natCast_add, Rat.natCast_mul] at x2 y2
  have hLq := congrArg (fun z : Int => (z : Rat)) hL
  have hcq := congrArg (fun z : Int => (z : Rat)) hc
  have q1 := Rat.intCast_le_intCast.2 (show (bx : Int) - ax ≤ 25165824 by omega)
  have q2 := Rat.intCast_le_intCast.2 (show (-25165824 : Int) ≤ (bx : Int) - ax by omega)
  have q3 := Rat.intCast_le_intCast.2 (show (b' : Int) - ay ≤ 25165824 by omega)
  have q4 := Rat.intCast_le_intCast.2 (show (-25165824 : Int) ≤ (b' : Int) - ay by omega)
  have hz := Rat.intCast_le_intCast.2 (show (67108864 : Int) ≤ ((s : Int) + 32) * 2097152 by omega)
  simp only [Rat.intCast_sub, Rat.intCast_mul, Rat.intCast_add] at hLq hcq q1 q2 q3 q4 hz c1 c2 hRi hSi
  have i1 : ((659536884266312 : Int) : Rat) = 659536884266312 := rfl
  have i2 : ((25165824 : Int) : Rat) = 25165824 := rfl
  have i3 : ((-25165824 : Int) : Rat) = -25165824 := rfl
  have i4 : ((67108864 : Int) : Rat) = 67108864 := rfl
  have i5 : ((379625056 : Int) : Rat) = 379625056 := rfl
  have i6 : ((2097152 : Int) : Rat) = 2097152 := rfl
  have i7 : ((32 : Int) : Rat) = 32 := rfl
  rw [i1] at hLq
  rw [i2] at q1 q3
  rw [i3] at q2 q4
  have key := tab_core (Q := (Q : Rat)) (ge_q (Nat.zero_le Q)) c1 c2 (by rw [i4] at hz; exact hz) hRi hSi (ge_q (Nat.zero_le X)) (ge_q (Nat.zero_le Y)) x1 x2 y1 y2 (by grind) (by constructor <;> grind) (by constructor <;> grind) r1 r2
  have ek : k69 = 2097152 * (k25 * k25) * k40 := by decide +kernel
  have eQ : ((Q : Int) : Rat) = (Q : Rat) := rfl
  have f1 : (((((s : Int) + 32) * (b' - ay) * (Q : Nat) : Int) : Rat) * k69) = ((((q : Int) : Rat) * ((2097152 : Int) : Rat) - ((ay : Int) : Rat)) - (((q : Int) : Rat) * ((2097152 : Int) : Rat) - ((b' : Int) : Rat))) * ((((s : Int) : Rat) + ((32 : Int) : Rat)) * ((2097152 : Int) : Rat)) * (k25 * k25) * ((Q : Rat) * k40) := by
    simp only [Rat.intCast_sub, Rat.intCast_mul, Rat.intCast_add]
    rw [ek, i6, i7, eQ]
    generalize k25 * k25 = k
    grind
  have f2 : (((((s : Int) + 32) * (ax - bx) * (Q : Nat) : Int) : Rat) * k69) = -(((((p : Int) : Rat) * ((2097152 : Int) : Rat) - ((ax : Int) : Rat)) - (((p : Int) : Rat) * ((2097152 : Int) : Rat) - ((bx : Int) : Rat))) * ((((s : Int) : Rat) + ((32 : Int) : Rat)) * ((2097152 : Int) : Rat))) * (k25 * k25) * ((Q : Rat) * k40) := by
    simp only [Rat.intCast_sub, Rat.intCast_mul, Rat.intCast_add]
    rw [ek, i6, i7, eQ]
    generalize k25 * k25 = k
    grind
  have f3 : (((((p : Int) - 32) * (ay - b') - ((q : Int) - 32) * (ax - bx) + 379625056) * (Q : Nat) : Int) * k69) = ((((p : Int) : Rat) * ((2097152 : Int) : Rat) - ((ax : Int) : Rat)) * (((q : Int) : Rat) * ((2097152 : Int) : Rat) - ((b' : Int) : Rat)) - (((q : Int) : Rat) * ((2097152 : Int) : Rat) - ((ay : Int) : Rat)) * (((p : Int) : Rat) * ((2097152 : Int) : Rat) - ((bx : Int) : Rat))) * (k25 * k25) * ((Q : Rat) * k40) := by
    simp only [Rat.intCast_sub, Rat.intCast_mul, Rat.intCast_add]
    rw [ek, i5, i6, i7, eQ]
    rw [i4, i5, i6] at hcq
    generalize k25 * k25 = k
    generalize ((p : Int) : Rat) = p at *
    generalize ((q : Int) : Rat) = q at *
    generalize ((ax : Int) : Rat) = a1 at *
    generalize ((ay : Int) : Rat) = a2 at *
    generalize ((bx : Int) : Rat) = b1 at *
    generalize ((b' : Int) : Rat) = b2 at *
    generalize (Q : Rat) = Q at *
    clear key f1 f2 r1 r2 x1 x2 y1 y2 hLq q1 q2 q3 q4 hz c1 c2 hRi hSi eD
    have e : (p * 2097152 - a1) * (q * 2097152 - b2) - (q * 2097152 - a2) * (p * 2097152 - b1) = 2097152 * ((p - 32) * (a2 - b2) - (q - 32) * (a1 - b1) + 379625056) := by grind
    rw [e]
    grind
  rw [f1, f2, f3]
  exact key
end
end Go.Proofs.Ytfeciemlhiclbaa


namespace Go.Proofs.Ytfeciemlhiclbaa
open Go.RowKit

set_option maxRecDepth 20000
attribute [local irreducible] D9 D7 UU WW W9 segF fop
def axL : List Nat := [100663296, 90835430, 67108864, 43382298, 33554432, 43382298, 67108864, 90835430]
def ayL : List Nat := [67108864, 90835430, 100663296, 90835430, 67108864, 43382298, 33554432, 43382298]
structure Ring8 (L : List V3) : Prop where
  n : L.length = 8
  v : ∀ k, k < 8 → Vx (L.getD k z3) (axL.getD k 0) (ayL.getD k 0)
def FX (p q s : Nat) : Int := (ff_px p q s : Int) - ff_nx p q s
def FY (p q s : Nat) : Int := (ff_py p q s : Int) - ff_px p q s
def FZ (p q s : Nat) : Int := (ff_pz p q s : Int) - ff_nz p q s
theorem ff_oks_is {p q s : Nat} (h : ff_oks p q s = true) : ff_ok 100663296 67108864 p q s = true ∧ ff_ok 90835430 90835430 p q s = true ∧ ff_ok 67108864 100663296 p q s = true ∧ ff_ok 43382298 90835430 p q s = true ∧ ff_ok 33554432 67108864 p q s = true ∧ ff_ok 43382298 43382298 p q s = true ∧ ff_ok 67108864 33554432 p q s = true ∧ ff_ok 90835430 43382298 p q s = true := by
  unfold ff_oks at h
  simp only [Bool.and_eq_true] at h
  obtain ⟨⟨⟨⟨⟨⟨⟨a, b⟩, c⟩, d⟩, e⟩, f⟩, g⟩, i⟩ := h
  exact ⟨a, b, c, d, e, f, g, i⟩
section
variable {v w : V3} {a b c a' b' c' E F K : Rat}
theorem ad1 {x y : Nat} {a a' : Rat} (h : nr x a E) (ha : Rg a K) (h' : nr y a' (1301 * u24)) (ha' : Rg a' 1) (hA : K + 1 + E + 1301 * u24 ≤ 1000000000000000000) (hF : E + 1301 * u24 + (1 + 2 * (K + 1 + E + 1301 * u24)) * u24 ≤ F) : nr (fop .add .f32 x y) (a + a') F ∧ Rg (a + a') (K + 1) :=
  ⟨nr_add h h' (ha.add ha') hA hF, ha.add ha'⟩
theorem ad3 (h : nr3 v a b c E ∧ Rg3 a b c K) (h' : nr3 w a' b' c' (1301 * u24) ∧ Rg3 a' b' c' 1) (hA : K + 1 + E + 1301 * u24 ≤ 1000000000000000000) (hF : E + 1301 * u24 + (1 + 2 * (K + 1 + E + 1301 * u24)) * u24 ≤ F) : nr3 (add3 v w) (a + a') (b + b') (c + c') F ∧ Rg3 (a + a') (b + b') (c + c') (K + 1) := by
  obtain ⟨x1, x2⟩ := ad1 h.1.x h.2.x h'.1.x h'.2.x hA hF
  obtain ⟨y1, y2⟩ := ad1 h.1.y h.2.y h'.1.y h'.2.y hA hF
  obtain ⟨z1, z2⟩ := ad1 h.1.z h.2.z h'.1.z h'.2.z hA hF
  exact ⟨⟨x1, y1, z1⟩, ⟨x2, y2, z2⟩⟩
end
theorem sum8 (c : Rat) (n0 n1 n2 n3 n4 n5 n6 n7 N : Int) (h : N = n0 + n1 + n2 + n3 + n4 + n5 + n6 + n7) : 0 + (n0 : Rat) * c + (n1 : Rat) * c + (n2 : Rat) * c + (n3 : Rat) * c + (n4 : Rat) * c + (n5 : Rat) * c + (n6 : Rat) * c + (n7 : Rat) * c = (N : Rat) * c := by
  rw [h]
  simp only [Rat.intCast_add]
  grind
theorem tabXi (s Q0 Q1 Q2 Q3 Q4 Q5 Q6 Q7 : Int) : (s + (32 : Int)) * (33554432 : Int) * (Q0 + Q1 + Q2 + Q3 + Q4 + Q5 + Q6 + Q7) - (s + (32 : Int)) * (Q0 * (9827866 : Int) + Q1 * (23726566 : Int) + Q2 * (43382298 : Int) + Q3 * (57280998 : Int) + Q4 * (57280998 : Int) + Q5 * (43382298 : Int) + Q6 * (23726566 : Int) + Q7 * (9827866 : Int)) = (s + 32) * ((90835430 : Int) - (67108864 : Int)) * Q0 + (s + 32) * ((100663296 : Int) - (90835430 : Int)) * Q1 + (s + 32) * ((90835430 : Int) - (100663296 : Int)) * Q2 + (s + 32) * ((67108864 : Int) - (90835430 : Int)) * Q3 + (s + 32) * ((43382298 : Int) - (67108864 : Int)) * Q4 + (s + 32) * ((33554432 : Int) - (43382298 : Int)) * Q5 + (s + 32) * ((43382298 : Int) - (33554432 : Int)) * Q6 + (s + 32) * ((67108864 : Int) - (43382298 : Int)) * Q7 := by
  grind
theorem tabYi (s Q0 Q1 Q2 Q3 Q4 Q5 Q6 Q7 : Int) : (s + (32 : Int)) * (Q0 * (43382298 : Int) + Q1 * (57280998 : Int) + Q2 * (57280998 : Int) + Q3 * (43382298 : Int) + Q4 * (23726566 : Int) + Q5 * (9827866 : Int) + Q6 * (9827866 : Int) + Q7 * (23726566 : Int)) - (s + (32 : Int)) * (33554432 : Int) * (Q0 + Q1 + Q2 + Q3 + Q4 + Q5 + Q6 + Q7) = (s + 32) * ((100663296 : Int) - (90835430 : Int)) * Q0 + (s + 32) * ((90835430 : Int) - (67108864 : Int)) * Q1 + (s + 32) * ((67108864 : Int) - (43382298 : Int)) * Q2 + (s + 32) * ((43382298 : Int) - (33554432 : Int)) * Q3 + (s + 32) * ((33554432 : Int) - (43382298 : Int)) * Q4 + (s + 32) * ((43382298 : Int) - (67108864 : Int)) * Q5 + (s + 32) * ((67108864 : Int) - (90835430 : Int)) * Q6 + (s + 32) * ((90835430 : Int) - (100663296 : Int)) * Q7 := by
  grind
theorem tabZi (p q Q0 Q1 Q2 Q3 Q4 Q5 Q6 Q7 : Int) : p * (Q0 * (9827866 : Int) + Q1 * (23726566 : Int) + Q2 * (43382298 : Int) + Q3 * (57280998 : Int) + Q4 * (57280998 : Int) + Q5 * (43382298 : Int) + Q6 * (23726566 : Int) + Q7 * (9827866 : Int)) + q * (33554432 : Int) * (Q0 + Q1 + Q2 + Q3 + Q4 + Q5 + Q6 + Q7) + (32 : Int) * (Q0 * (43382298 : Int) + Q1 * (57280998 : Int) + Q2 * (57280998 : Int) + Q3 * (43382298 : Int) + Q4 * (23726566 : Int) + Q5 * (9827866 : Int) + Q6 * (9827866 : Int) + Q7 * (23726566 : Int)) + (379625056 : Int) * (Q0 + Q1 + Q2 + Q3 + Q4 + Q5 + Q6 + Q7) - (p * (33554432 : Int) * (Q0 + Q1 + Q2 + Q3 + Q4 + Q5 + Q6 + Q7) + (32 : Int) * (Q0 * (9827866 : Int) + Q1 * (23726566 : Int) + Q2 * (43382298 : Int) + Q3 * (57280998 : Int) + Q4 * (57280998 : Int) + Q5 * (43382298 : Int) + Q6 * (23726566 : Int) + Q7 * (9827866 : Int)) + q * (Q0 * (43382298 : Int) + Q1 * (57280998 : Int) + Q2 * (57280998 : Int) + Q3 * (43382298 : Int) + Q4 * (23726566 : Int) + Q5 * (9827866 : Int) + Q6 * (9827866 : Int) + Q7 * (23726566 : Int))) = ((p - 32) * ((67108864 : Int) - (90835430 : Int)) - (q - 32) * ((100663296 : Int) - (90835430 : Int)) + 379625056) * Q0 + ((p - 32) * ((90835430 : Int) - (100663296 : Int)) - (q - 32) * ((90835430 : Int) - (67108864 : Int)) + 379625056) * Q1 + ((p - 32) * ((100663296 : Int) - (90835430 : Int)) - (q - 32) * ((67108864 : Int) - (43382298 : Int)) + 379625056) * Q2 + ((p - 32) * ((90835430 : Int) - (67108864 : Int)) - (q - 32) * ((43382298 : Int) - (33554432 : Int)) + 379625056) * Q3 + ((p - 32) * ((67108864 : Int) - (43382298 : Int)) - (q - 32) * ((33554432 : Int) - (43382298 : Int)) + 379625056) * Q4 + ((p - 32) * ((43382298 : Int) - (33554432 : Int)) - (q - 32) * ((43382298 : Int) - (67108864 : Int)) + 379625056) * Q5 + ((p - 32) * ((33554432 : Int) - (43382298 : Int)) - (q - 32) * ((67108864 : Int) - (90835430 : Int)) + 379625056) * Q6 + ((p - 32) * ((43382298 : Int) - (67108864 : Int)) - (q - 32) * ((90835430 : Int) - (100663296 : Int)) + 379625056) * Q7 := by
  grind
theorem tabX (s Q0 Q1 Q2 Q3 Q4 Q5 Q6 Q7 : Nat) : ((s : Int) + ((32 : Nat) : Int)) * ((33554432 : Nat) : Int) * ((Q0 : Int) + (Q1 : Int) + (Q2 : Int) + (Q3 : Int) + (Q4 : Int) + (Q5 : Int) + (Q6 : Int) + (Q7 : Int)) - ((s : Int) + ((32 : Nat) : Int)) * ((Q0 : Int) * ((9827866 : Nat) : Int) + (Q1 : Int) * ((23726566 : Nat) : Int) + (Q2 : Int) * ((43382298 : Nat) : Int) + (Q3 : Int) * ((57280998 : Nat) : Int) + (Q4 : Int) * ((57280998 : Nat) : Int) + (Q5 : Int) * ((43382298 : Nat) : Int) + (Q6 : Int) * ((23726566 : Nat) : Int) + (Q7 : Int) * ((9827866 : Nat) : Int)) = ((s : Int) + 32) * (((90835430 : Nat) : Int) - ((67108864 : Nat) : Int)) * (Q0 : Int) + ((s : Int) + 32) * (((100663296 : Nat) : Int) - ((90835430 : Nat) : Int)) * (Q1 : Int) + ((s : Int) + 32) * (((90835430 : Nat) : Int) - ((100663296 : Nat) : Int)) * (Q2 : Int) + ((s : Int) + 32) * (((67108864 : Nat) : Int) - ((90835430 : Nat) : Int)) * (Q3 : Int) + ((s : Int) + 32) * (((43382298 : Nat) : Int) - ((67108864 : Nat) : Int)) * (Q4 : Int) + ((s : Int) + 32) * (((33554432 : Nat) : Int) - ((43382298 : Nat) : Int)) * (Q5 : Int) + ((s : Int) + 32) * (((43382298 : Nat) : Int) - ((33554432 : Nat) : Int)) * (Q6 : Int) + ((s : Int) + 32) * (((67108864 : Nat) : Int) - ((43382298 : Nat) : Int)) * (Q7 : Int) := by
  exact tabXi s Q0 Q1 Q2 Q3 Q4 Q5 Q6 Q7
theorem tabY (s Q0 Q1 Q2 Q3 Q4 Q5 Q6 Q7 : Nat) : ((s : Int) + ((32 : Nat) : Int)) * ((Q0 : Int) * ((43382298 : Nat) : Int) + (Q1 : Int) * ((57280998 : Nat) : Int) + (Q2 : Int) * ((57280998 : Nat) : Int) + (Q3 : Int) * ((43382298 : Nat) : Int) + (Q4 : Int) * ((23726566 : Nat) : Int) + (Q5 : Int) * ((9827866 : Nat) : Int) + (Q6 : Int) * ((9827866 : Nat) : Int) + (Q7 : Int) * ((23726566 : Nat) : Int)) - ((s : Int) + ((32 : Nat) : Int)) * ((33554432 : Nat) : Int) * ((Q0 : Int) + (Q1 : Int) + (Q2 : Int) + (Q3 : Int) + (Q4 : Int) + (Q5 : Int) + (Q6 : Int) + (Q7 : Int)) = ((s : Int) + 32) * (((100663296 : Nat) : Int) - ((90835430 : Nat) : Int)) * (Q0 : Int) + ((s : Int) + 32) * (((90835430 : Nat) : Int) - ((67108864 : Nat) : Int)) * (Q1 : Int) + ((s : Int) + 32) * (((67108864 : Nat) : Int) - ((43382298 : Nat) : Int)) * (Q2 : Int) + ((s : Int) + 32) * (((43382298 : Nat) : Int) - ((33554432 : Nat) : Int)) * (Q3 : Int) + ((s : Int) + 32) * (((33554432 : Nat) : Int) - ((43382298 : Nat) : Int)) * (Q4 : Int) + ((s : Int) + 32) * (((43382298 : Nat) : Int) - ((67108864 : Nat) : Int)) * (Q5 : Int) + ((s : Int) + 32) * (((67108864 : Nat) : Int) - ((90835430 : Nat) : Int)) * (Q6 : Int) + ((s : Int) + 32) * (((90835430 : Nat) : Int) - ((100663296 : Nat) : Int)) * (Q7 : Int) := by
  exact tabYi s Q0 Q1 Q2 Q3 Q4 Q5 Q6 Q7
theorem tabZ (p q Q0 Q1 Q2 Q3 Q4 Q5 Q6 Q7 : Nat) : (p : Int) * ((Q0 : Int) * ((9827866 : Nat) : Int) + (Q1 : Int) * ((23726566 : Nat) : Int) + (Q2 : Int) * ((43382298 : Nat) : Int) + (Q3 : Int) * ((57280998 : Nat) : Int) + (Q4 : Int) * ((57280998 : Nat) : Int) + (Q5 : Int) * ((43382298 : Nat) : Int) + (Q6 : Int) * ((23726566 : Nat) : Int) + (Q7 : Int) * ((9827866 : Nat) : Int)) + (q : Int) * ((33554432 : Nat) : Int) * ((Q0 : Int) + (Q1 : Int) + (Q2 : Int) + (Q3 : Int) + (Q4 : Int) + (Q5 : Int) + (Q6 : Int) + (Q7 : Int)) + ((32 : Nat) : Int) * ((Q0 : Int) * ((43382298 : Nat) : Int) + (Q1 : Int) * ((57280998 : Nat) : Int) + (Q2 : Int) * ((57280998 : Nat) : Int) + (Q3 : Int) * ((43382298 : Nat) : Int) + (Q4 : Int) * ((23726566 : Nat) : Int) + (Q5 : Int) * ((9827866 : Nat) : Int) + (Q6 : Int) * ((9827866 : Nat) : Int) + (Q7 : Int) * ((23726566 : Nat) : Int)) + ((379625056 : Nat) : Int) * ((Q0 : Int) + (Q1 : Int) + (Q2 : Int) + (Q3 : Int) + (Q4 : Int) + (Q5 : Int) + (Q6 : Int) + (Q7 : Int)) - ((p : Int) * ((33554432 : Nat) : Int) * ((Q0 : Int) + (Q1 : Int) + (Q2 : Int) + (Q3 : Int) + (Q4 : Int) + (Q5 : Int) + (Q6 : Int) + (Q7 : Int)) + ((32 : Nat) : Int) * ((Q0 : Int) * ((9827866 : Nat) : Int) + (Q1 : Int) * ((23726566 : Nat) : Int) + (Q2 : Int) * ((43382298 : Nat) : Int) + (Q3 : Int) * ((57280998 : Nat) : Int) + (Q4 : Int) * ((57280998 : Nat) : Int) + (Q5 : Int) * ((43382298 : Nat) : Int) + (Q6 : Int) * ((23726566 : Nat) : Int) + (Q7 : Int) * ((9827866 : Nat) : Int)) + (q : Int) * ((Q0 : Int) * ((43382298 : Nat) : Int) + (Q1 : Int) * ((57280998 : Nat) : Int) + (Q2 : Int) * ((57280998 : Nat) : Int) + (Q3 : Int) * ((43382298 : Nat) : Int) + (Q4 : Int) * ((23726566 : Nat) : Int) + (Q5 : Int) * ((9827866 : Nat) : Int) + (Q6 : Int) * ((9827866 : Nat) : Int) + (Q7 : Int) * ((23726566 : Nat) : Int))) = (((p : Int) - 32) * (((67108864 : Nat) : Int) - ((90835430 : Nat) : Int)) - ((q : Int) - 32) * (((100663296 : Nat) : Int) - ((90835430 : Nat) : Int)) + 379625056) * (Q0 : Int) + (((p : Int) - 32) * (((90835430 : Nat) : Int) - ((100663296 : Nat) : Int)) - ((q : Int) - 32) * (((90835430 : Nat) : Int) - ((67108864 : Nat) : Int)) + 379625056) * (Q1 : Int) + (((p : Int) - 32) * (((100663296 : Nat) : Int) - ((90835430 : Nat) : Int)) - ((q : Int) - 32) * (((67108864 : Nat) : Int) - ((43382298 : Nat) : Int)) + 379625056) * (Q2 : Int) + (((p : Int) - 32) * (((90835430 : Nat) : Int) - ((67108864 : Nat) : Int)) - ((q : Int) - 32) * (((43382298 : Nat) : Int) - ((33554432 : Nat) : Int)) + 379625056) * (Q3 : Int) + (((p : Int) - 32) * (((67108864 : Nat) : Int) - ((43382298 : Nat) : Int)) - ((q : Int) - 32) * (((33554432 : Nat) : Int) - ((43382298 : Nat) : Int)) + 379625056) * (Q4 : Int) + (((p : Int) - 32) * (((43382298 : Nat) : Int) - ((33554432 : Nat) : Int)) - ((q : Int) - 32) * (((43382298 : Nat) : Int) - ((67108864 : Nat) : Int)) + 379625056) * (Q5 : Int) + (((p : Int) - 32) * (((33554432 : Nat) : Int) - ((43382298 : Nat) : Int)) - ((q : Int) - 32) * (((67108864 : Nat) : Int) - ((90835430 : Nat) : Int)) + 379625056) * (Q6 : Int) + (((p : Int) - 32) * (((43382298 : Nat) : Int) - ((67108864 : Nat) : Int)) - ((q : Int) - 32) * (((90835430 : Nat) : Int) - ((100663296 : Nat) : Int)) + 379625056) * (Q7 : Int) := by
  exact tabZi p q Q0 Q1 Q2 Q3 Q4 Q5 Q6 Q7
theorem ff_0_is (p q s : Nat) : ff_Q 100663296 67108864 90835430 90835430 p q s = ff_0 p q s := rfl
theorem ff_1_is (p q s : Nat) : ff_Q 90835430 90835430 67108864 100663296 p q s = ff_1 p q s := rfl
theorem ff_2_is (p q s : Nat) : ff_Q 67108864 100663296 43382298 90835430 p q s = ff_2 p q s := rfl
theorem ff_3_is (p q s : Nat) : ff_Q 43382298 90835430 33554432 67108864 p q s = ff_3 p q s := rfl
theorem ff_4_is (p q s : Nat) : ff_Q 33554432 67108864 43382298 43382298 p q s = ff_4 p q s := rfl
theorem ff_5_is (p q s : Nat) : ff_Q 43382298 43382298 67108864 33554432 p q s = ff_5 p q s := rfl
theorem ff_6_is (p q s : Nat) : ff_Q 67108864 33554432 90835430 43382298 p q s = ff_6 p q s := rfl
theorem ff_7_is (p q s : Nat) : ff_Q 90835430 43382298 100663296 67108864 p q s = ff_7 p q s := rfl
attribute [local irreducible] ff_0 ff_1 ff_2 ff_3 ff_4 ff_5 ff_6 ff_7
theorem FX_is (p q s : Nat) : FX p q s = ((s : Int) + 32) * (((90835430 : Nat) : Int) - ((67108864 : Nat) : Int)) * ((ff_0 p q s : Nat) : Int) + ((s : Int) + 32) * (((100663296 : Nat) : Int) - ((90835430 : Nat) : Int)) * ((ff_1 p q s : Nat) : Int) + ((s : Int) + 32) * (((90835430 : Nat) : Int) - ((100663296 : Nat) : Int)) * ((ff_2 p q s : Nat) : Int) + ((s : Int) + 32) * (((67108864 : Nat) : Int) - ((90835430 : Nat) : Int)) * ((ff_3 p q s : Nat) : Int) + ((s : Int) + 32) * (((43382298 : Nat) : Int) - ((67108864 : Nat) : Int)) * ((ff_4 p q s : Nat) : Int) + ((s : Int) + 32) * (((33554432 : Nat) : Int) - ((43382298 : Nat) : Int)) * ((ff_5 p q s : Nat) : Int) + ((s : Int) + 32) * (((43382298 : Nat) : Int) - ((33554432 : Nat) : Int)) * ((ff_6 p q s : Nat) : Int) + ((s : Int) + 32) * (((67108864 : Nat) : Int) - ((43382298 : Nat) : Int)) * ((ff_7 p q s : Nat) : Int) := by
  unfold FX ff_px ff_nx ff_G ff_V
  simp only [Int.natCast_add, Int.natCast_mul]
  exact tabX s (ff_0 p q s) (ff_1 p q s) (ff_2 p q s) (ff_3 p q s) (ff_4 p q s) (ff_5 p q s) (ff_6 p q s) (ff_7 p q s)
theorem FY_is (p q s : Nat) : FY p q s = ((s : Int) + 32) * (((100663296 : Nat) : Int) - ((90835430 : Nat) : Int)) * ((ff_0 p q s : Nat) : Int) + ((s : Int) + 32) * (((90835430 : Nat) : Int) - ((67108864 : Nat) : Int)) * ((ff_1 p q s : Nat) : Int) + ((s : Int) + 32) * (((67108864 : Nat) : Int) - ((43382298 : Nat) : Int)) * ((ff_2 p q s : Nat) : Int) + ((s : Int) + 32) * (((43382298 : Nat) : Int) - ((33554432 : Nat) : Int)) * ((ff_3 p q s : Nat) : Int) + ((s : Int) + 32) * (((33554432 : Nat) : Int) - ((43382298 : Nat) : Int)) * ((ff_4 p q s : Nat) : Int) + ((s : Int) + 32) * (((43382298 : Nat) : Int) - ((67108864 : Nat) : Int)) * ((ff_5 p q s : Nat) : Int) + ((s : Int) + 32) * (((67108864 : Nat) : Int) - ((90835430 : Nat) : Int)) * ((ff_6 p q s : Nat) : Int) + ((s : Int) + 32) * (((90835430 : Nat) : Int) - ((100663296 : Nat) : Int)) * ((ff_7 p q s : Nat) : Int) := by
  unfold FY ff_py ff_px ff_G ff_U
  simp only [Int.natCast_add, Int.natCast_mul]
  exact tabY s (ff_0 p q s) (ff_1 p q s) (ff_2 p q s) (ff_3 p q s) (ff_4 p q s) (ff_5 p q s) (ff_6 p q s) (ff_7 p q s)
theorem FZ_is (p q s : Nat) : FZ p q s = (((p : Int) - 32) * (((67108864 : Nat) : Int) - ((90835430 : Nat) : Int)) - ((q : Int) - 32) * (((100663296 : Nat) : Int) - ((90835430 : Nat) : Int)) + 379625056) * ((ff_0 p q s : Nat) : Int) + (((p : Int) - 32) * (((90835430 : Nat) : Int) - ((100663296 : Nat) : Int)) - ((q : Int) - 32) * (((90835430 : Nat) : Int) - ((67108864 : Nat) : Int)) + 379625056) * ((ff_1 p q s : Nat) : Int) + (((p : Int) - 32) * (((100663296 : Nat) : Int) - ((90835430 : Nat) : Int)) - ((q : Int) - 32) * (((67108864 : Nat) : Int) - ((43382298 : Nat) : Int)) + 379625056) * ((ff_2 p q s : Nat) : Int) + (((p : Int) - 32) * (((90835430 : Nat) : Int) - ((67108864 : Nat) : Int)) - ((q : Int) - 32) * (((43382298 : Nat) : Int) - ((33554432 : Nat) : Int)) + 379625056) * ((ff_3 p q s : Nat) : Int) + (((p : Int) - 32) * (((67108864 : Nat) : Int) - ((43382298 : Nat) : Int)) - ((q : Int) - 32) * (((33554432 : Nat) : Int) - ((43382298 : Nat) : Int)) + 379625056) * ((ff_4 p q s : Nat) : Int) + (((p : Int) - 32) * (((43382298 : Nat) : Int) - ((33554432 : Nat) : Int)) - ((q : Int) - 32) * (((43382298 : Nat) : Int) - ((67108864 : Nat) : Int)) + 379625056) * ((ff_5 p q s : Nat) : Int) + (((p : Int) - 32) * (((33554432 : Nat) : Int) - ((43382298 : Nat) : Int)) - ((q : Int) - 32) * (((67108864 : Nat) : Int) - ((90835430 : Nat) : Int)) + 379625056) * ((ff_6 p q s : Nat) : Int) + (((p : Int) - 32) * (((43382298 : Nat) : Int) - ((67108864 : Nat) : Int)) - ((q : Int) - 32) * (((90835430 : Nat) : Int) - ((100663296 : Nat) : Int)) + 379625056) * ((ff_7 p q s : Nat) : Int) := by
  unfold FZ ff_pz ff_nz ff_G ff_U ff_V
  simp only [Int.natCast_add, Int.natCast_mul]
  exact tabZ p q (ff_0 p q s) (ff_1 p q s) (ff_2 p q s) (ff_3 p q s) (ff_4 p q s) (ff_5 p q s) (ff_6 p q s) (ff_7 p q s)
section
variable {L : List V3} {P : V3} {p q s : Nat}
theorem Ring8.seg (hL : Ring8 L) (c : Nat) (k : Nat) : segA (L, true, c) k = L.getD k z3 ∧ segB (L, true, c) k = L.getD ((k + 1) % 8) z3 := by
  refine ⟨rfl, ?_⟩
  show L.getD ((k + 1) % L.length) z3 = _
  rw [hL.n]
theorem zero3 : nr3 z3 0 0 0 0 ∧ Rg3 0 0 0 0 := ⟨⟨.of qv_zero, .of qv_zero, .of qv_zero⟩, ⟨⟨by decide +kernel, by decide +kernel⟩, ⟨by decide +kernel, by decide +kernel⟩, ⟨by decide +kernel, by decide +kernel⟩⟩⟩
theorem nr3.to {w : V3} {a b c a' b' c' E : Rat} (h : nr3 w a b c E) (h1 : a = a') (h2 : b = b') (h3 : c = c') : nr3 w a' b' c' E := by rw [← h1, ← h2, ← h3]; exact h
theorem Rg3.to {a b c a' b' c' E : Rat} (h : Rg3 a b c E) (h1 : a = a') (h2 : b = b') (h3 : c = c') : Rg3 a' b' c' E := by rw [← h1, ← h2, ← h3]; exact h
theorem ring8_sum (hL : Ring8 L) (h : Lat P p q s) (c : Nat) : nr3 (sumW (L, true, c) P 8) ((FX p q s : Rat) * k69) ((FY p q s : Rat) * k69) ((FZ p q s : Rat) * k69) (10600 * u24) ∧ Rg3 ((FX p q s : Rat) * k69) ((FY p q s : Rat) * k69) ((FZ p q s : Rat) * k69) 8 := by
  obtain ⟨o0, o1, o2, o3, o4, o5, o6, o7⟩ := ff_oks_is h.ok
  have v0 : Vx (L.getD 0 z3) 100663296 67108864 := hL.v 0 (by decide)
  have v1 : Vx (L.getD 1 z3) 90835430 90835430 := hL.v 1 (by decide)
  have v2 : Vx (L.getD 2 z3) 67108864 100663296 := hL.v 2 (by decide)
  have v3 : Vx (L.getD 3 z3) 43382298 90835430 := hL.v 3 (by decide)
  have v4 : Vx (L.getD 4 z3) 33554432 67108864 := hL.v 4 (by decide)
  have v5 : Vx (L.getD 5 z3) 43382298 43382298 := hL.v 5 (by decide)
  have v6 : Vx (L.getD 6 z3) 67108864 33554432 := hL.v 6 (by decide)
  have v7 : Vx (L.getD 7 z3) 90835430 43382298 := hL.v 7 (by decide)
  have t0 := seg_tab h v0 v1 o0 o1 (by decide) (by decide) (by decide) (by decide)
  have t1 := seg_tab h v1 v2 o1 o2 (by decide) (by decide) (by decide) (by decide)
  have t2 := seg_tab h v2 v3 o2 o3 (by decide) (by decide) (by decide) (by decide)
  have t3 := seg_tab h v3 v4 o3 o4 (by decide) (by decide) (by decide) (by decide)
  have t4 := seg_tab h v4 v5 o4 o5 (by decide) (by decide) (by decide) (by decide)
  have t5 := seg_tab h v5 v6 o5 o6 (by decide) (by decide) (by decide) (by decide)
  have t6 := seg_tab h v6 v7 o6 o7 (by decide) (by decide) (by decide) (by decide)
  have t7 := seg_tab h v7 v0 o7 o0 (by decide) (by decide) (by decide) (by decide)
  have a1 := ad3 zero3 t0 (F := 1325 * u24) (by decide +kernel) (by decide +kernel)
  have a2 := ad3 a1 t1 (F := 2650 * u24) (by decide +kernel) (by decide +kernel)
  have a3 := ad3 a2 t2 (F := 3975 * u24) (by decide +kernel) (by decide +kernel)
  have a4 := ad3 a3 t3 (F := 5300 * u24) (by decide +kernel) (by decide +kernel)
  have a5 := ad3 a4 t4 (F := 6625 * u24) (by decide +kernel) (by decide +kernel)
  have a6 := ad3 a5 t5 (F := 7950 * u24) (by decide +kernel) (by decide +kernel)
  have a7 := ad3 a6 t6 (F := 9275 * u24) (by decide +kernel) (by decide +kernel)
  have a8 := ad3 a7 t7 (F := 10600 * u24) (by decide +kernel) (by decide +kernel)
  have es : sumW (L, true, c) P 8 = add3 (add3 (add3 (add3 (add3 (add3 (add3 (add3 z3 (segF (L.getD 0 z3) (L.getD 1 z3) P)) (segF (L.getD 1 z3) (L.getD 2 z3) P)) (segF (L.getD 2 z3) (L.getD 3 z3) P)) (segF (L.getD 3 z3) (L.getD 4 z3) P)) (segF (L.getD 4 z3) (L.getD 5 z3) P)) (segF (L.getD 5 z3) (L.getD 6 z3) P)) (segF (L.getD 6 z3) (L.getD 7 z3) P)) (segF (L.getD 7 z3) (L.getD 0 z3) P) := by
    simp only [sumW, (hL.seg c _).1, (hL.seg c _).2, Nat.reduceAdd, Nat.reduceMod]
  have eK : (0 : Rat) + 1 + 1 + 1 + 1 + 1 + 1 + 1 + 1 = 8 := by decide +kernel
  rw [eK] at a8
  rw [es]
  rw [ff_0_is, ff_1_is, ff_2_is, ff_3_is, ff_4_is, ff_5_is, ff_6_is, ff_7_is] at a8
  have gx := sum8 k69 _ _ _ _ _ _ _ _ _ (FX_is p q s)
  have gy := sum8 k69 _ _ _ _ _ _ _ _ _ (FY_is p q s)
  have gz := sum8 k69 _ _ _ _ _ _ _ _ _ (FZ_is p q s)
  exact ⟨a8.1.to gx gy gz, a8.2.to gx gy gz⟩
end
end Go.Proofs.Ytfeciemlhiclbaa


namespace Go.Proofs.Ytfeciemlhiclbaa
open Go.RowKit

set_option maxRecDepth 20000
attribute [local irreducible] D9 D7 UU WW W9 segF fop
theorem qv_one1 : qv 1065353216 1 := by
  refine ⟨16777216 * UU, ⟨by decide +kernel, by decide +kernel, by decide +kernel⟩, ?_⟩
  unfold WW
  rw [Rat.intCast_mul]
  have e : ((16777216 : Int) : Rat) = 16777216 := rfl
  rw [e]; grind
section
variable {L : List V3} {P : V3} {p q s : Nat}
theorem nr_one {x : Nat} {a : Rat} (h : nr x a (10600 * u24)) (ha : Rg a 8) : nr (fop .add .f32 0 (fop .mul .f32 x 1065353216)) a (10700 * u24) := by
  have r1 : Rg (1 : Rat) 1 := ⟨by decide +kernel, by decide +kernel⟩
  have m := nr_mul h (.of qv_one1) ha r1 (G := 10620 * u24) (by decide +kernel) (by decide +kernel)
  rw [Rat.mul_one] at m
  have hz : Rg ((0 : Rat) + a) 8 := by rw [Rat.zero_add]; exact ha
  have := nr_add (.of qv_zero) m hz (G := 10700 * u24) (by decide +kernel) (by decide +kernel)
  rwa [Rat.zero_add] at this
theorem ring8_field (hL : Ring8 L) (h : Lat P p q s) : nr3 (fieldI [(L, true, 1065353216)] P) ((FX p q s : Rat) * k69) ((FY p q s : Rat) * k69) ((FZ p q s : Rat) * k69) (10700 * u24) ∧ Rg3 ((FX p q s : Rat) * k69) ((FY p q s : Rat) * k69) ((FZ p q s : Rat) * k69) 8 := by
  have hs := ring8_sum hL h 1065353216
  have e : fieldI [(L, true, 1065353216)] P = add3 z3 (scale3 (sumW (L, true, 1065353216) P 8) 1065353216) := by
    show add3 z3 (scale3 (sumW (L, true, 1065353216) P (segN (L, true, 1065353216))) 1065353216) = _
    rw [show segN (L, true, 1065353216) = 8 from hL.n]
  rw [e]
  exact ⟨⟨nr_one hs.1.x hs.2.x, nr_one hs.1.y hs.2.y, nr_one hs.1.z hs.2.z⟩, hs.2⟩
end
/-! ### mirror images -/
section
variable {p q s ax ay bx b' a : Nat}
theorem sq_mir (hp : p ≤ 64) (ha : a ≤ 134217728) : ff_sq (64 - p) a = ff_sq p (134217728 - a) := by
  have h1 := ff_sq_int (64 - p) a
  have h2 := ff_sq_int p (134217728 - a)
  rw [Int.ofNat_sub hp] at h1
  rw [Int.ofNat_sub ha] at h2
  have c1 : ((64 : Nat) : Int) = 64 := rfl
  have c2 : ((134217728 : Nat) : Int) = 134217728 := rfl
  rw [c1] at h1
  rw [c2] at h2
  have : ((ff_sq (64 - p) a : Nat) : Int) = ((ff_sq p (134217728 - a) : Nat) : Int) := by rw [h1, h2]; grind
  exact Int.ofNat_inj.1 this
theorem R_mx (hp : p ≤ 64) (ha : ax ≤ 134217728) : ff_R ax ay (64 - p) q s = ff_R (134217728 - ax) ay p q s := by unfold ff_R; rw [sq_mir hp ha]
theorem R_my (hq : q ≤ 64) (ha : ay ≤ 134217728) : ff_R ax ay p (64 - q) s = ff_R ax (134217728 - ay) p q s := by unfold ff_R; rw [sq_mir hq ha]
theorem X_mx (hp : p ≤ 64) (ha : ax ≤ 134217728) : ff_X ax ay (64 - p) q s = ff_X (134217728 - ax) ay p q s := by unfold ff_X; rw [R_mx hp ha]
theorem X_my (hq : q ≤ 64) (ha : ay ≤ 134217728) : ff_X ax ay p (64 - q) s = ff_X ax (134217728 - ay) p q s := by unfold ff_X; rw [R_my hq ha]
theorem ok_mx (hp : p ≤ 64) (ha : ax ≤ 134217728) : ff_ok ax ay (64 - p) q s = ff_ok (134217728 - ax) ay p q s := by unfold ff_ok; rw [R_mx hp ha, X_mx hp ha]
theorem ok_my (hq : q ≤ 64) (ha : ay ≤ 134217728) : ff_ok ax ay p (64 - q) s = ff_ok ax (134217728 - ay) p q s := by unfold ff_ok; rw [R_my hq ha, X_my hq ha]
theorem D_comm (X Y R S : Nat) : ff_D X Y R S = ff_D Y X S R := by
  unfold ff_D
  rw [Nat.mul_comm X Y, show 2 * (Y * X) + R + S = 2 * (Y * X) + S + R by omega]
theorem Q_mx (hp : p ≤ 64) (ha : ax ≤ 134217728) (hb : bx ≤ 134217728) : ff_Q ax ay bx b' (64 - p) q s = ff_Q (134217728 - bx) b' (134217728 - ax) ay p q s := by
  unfold ff_Q
  rw [R_mx hp ha, R_mx hp hb, X_mx hp ha, X_mx hp hb, D_comm, Nat.add_comm]
theorem Q_my (hq : q ≤ 64) (ha : ay ≤ 134217728) (hb : b' ≤ 134217728) : ff_Q ax ay bx b' p (64 - q) s = ff_Q bx (134217728 - b') ax (134217728 - ay) p q s := by
  unfold ff_Q
  rw [R_my hq ha, R_my hq hb, X_my hq ha, X_my hq hb, D_comm, Nat.add_comm]
theorem ff_mx (hp : p ≤ 64) : ff_0 (64 - p) q s = ff_3 p q s ∧ ff_1 (64 - p) q s = ff_2 p q s ∧ ff_2 (64 - p) q s = ff_1 p q s ∧ ff_3 (64 - p) q s = ff_0 p q s ∧ ff_4 (64 - p) q s = ff_7 p q s ∧ ff_5 (64 - p) q s = ff_6 p q s ∧ ff_6 (64 - p) q s = ff_5 p q s ∧ ff_7 (64 - p) q s = ff_4 p q s :=
  ⟨Q_mx hp (by decide) (by decide), Q_mx hp (by decide) (by decide), Q_mx hp (by decide) (by decide), Q_mx hp (by decide) (by decide), Q_mx hp (by decide) (by decide), Q_mx hp (by decide) (by decide), Q_mx hp (by decide) (by decide), Q_mx hp (by decide) (by decide)⟩
theorem ff_my (hq : q ≤ 64) : ff_0 p (64 - q) s = ff_7 p q s ∧ ff_1 p (64 - q) s = ff_6 p q s ∧ ff_2 p (64 - q) s = ff_5 p q s ∧ ff_3 p (64 - q) s = ff_4 p q s ∧ ff_4 p (64 - q) s = ff_3 p q s ∧ ff_5 p (64 - q) s = ff_2 p q s ∧ ff_6 p (64 - q) s = ff_1 p q s ∧ ff_7 p (64 - q) s = ff_0 p q s :=
  ⟨Q_my hq (by decide) (by decide), Q_my hq (by decide) (by decide), Q_my hq (by decide) (by decide), Q_my hq (by decide) (by decide), Q_my hq (by decide) (by decide), Q_my hq (by decide) (by decide), Q_my hq (by decide) (by decide), Q_my hq (by decide) (by decide)⟩
theorem oks_mx (hp : p ≤ 64) (h : ff_oks p q s = true) : ff_oks (64 - p) q s = true := by
  obtain ⟨a, b, c, d, e, f, g, i⟩ := ff_oks_is h
  unfold ff_oks
  simp only [Bool.and_eq_true]
  rw [ok_mx hp (by decide), ok_mx hp (by decide), ok_mx hp (by decide), ok_mx hp (by decide), ok_mx hp (by decide), ok_mx hp (by decide), ok_mx hp (by decide), ok_mx hp (by decide)]
  exact ⟨⟨⟨⟨⟨⟨⟨e, d⟩, c⟩, b⟩, a⟩, i⟩, g⟩, f⟩
theorem oks_my (hq : q ≤ 64) (h : ff_oks p q s = true) : ff_oks p (64 - q) s = true := by
  obtain ⟨a, b, c, d, e, f, g, i⟩ := ff_oks_is h
  unfold ff_oks
  simp only [Bool.and_eq_true]
  rw [ok_my hq (by decide), ok_my hq (by decide), ok_my hq (by decide), ok_my hq (by decide), ok_my hq (by decide), ok_my hq (by decide), ok_my hq (by decide), ok_my hq (by decide)]
  exact ⟨⟨⟨⟨⟨⟨⟨a, i⟩, g⟩, f⟩, e⟩, d⟩, c⟩, b⟩
theorem F_mx (hp : p ≤ 64) : FX (64 - p) q s = -FX p q s ∧ FY (64 - p) q s = FY p q s ∧ FZ (64 - p) q s = FZ p q s := by
  obtain ⟨h0, h1, h2, h3, h4, h5, h6, h7⟩ := ff_mx (q := q) (s := s) hp
  have c1 : ((64 - p : Nat) : Int) = 64 - (p : Int) := by rw [Int.ofNat_sub hp]; rfl
  refine ⟨?_, ?_, ?_⟩
  · rw [FX_is, FX_is, h0, h1, h2, h3, h4, h5, h6, h7]; grind
  · rw [FY_is, FY_is, h0, h1, h2, h3, h4, h5, h6, h7]; grind
  · rw [FZ_is, FZ_is, h0, h1, h2, h3, h4, h5, h6, h7, c1]; grind
theorem F_my (hq : q ≤ 64) : FX p (64 - q) s = FX p q s ∧ FY p (64 - q) s = -FY p q s ∧ FZ p (64 - q) s = FZ p q s := by
  obtain ⟨h0, h1, h2, h3, h4, h5, h6, h7⟩ := ff_my (p := p) (s := s) hq
  have c1 : ((64 - q : Nat) : Int) = 64 - (q : Int) := by rw [Int.ofNat_sub hq]; rfl
  refine ⟨?_, ?_, ?_⟩
  · rw [FX_is, FX_is, h0, h1, h2, h3, h4, h5, h6, h7]; grind
  · rw [FY_is, FY_is, h0, h1, h2, h3, h4, h5, h6, h7]; grind
  · rw [FZ_is, FZ_is, h0, h1, h2, h3, h4, h5, h6, h7, c1]; grind
end
end Go.Proofs.Ytfeciemlhiclbaa


namespace Go.Proofs.Ytfeciemlhiclbaa

set_option maxRecDepth 100000
theorem ff_z0 : ff_all (0, 1, 2, 3, 4) = true := by decide +kernel
theorem ff_z1 : ff_all (4, 5, 6, 7, 8) = true := by decide +kernel
theorem ff_z2 : ff_all (8, 9, 10, 11, 12) = true := by decide +kernel
theorem ff_z3 : ff_all (12, 13, 14, 15, 16) = true := by decide +kernel
theorem ff_z4 : ff_all (16, 17, 18, 19, 20) = true := by decide +kernel
end Go.Proofs.Ytfeciemlhiclbaa


namespace Go.Proofs.Ytfeciemlhiclbaa

set_option maxRecDepth 100000
theorem ff_z5 : ff_all (20, 21, 22, 23, 24) = true := by decide +kernel
theorem ff_z6 : ff_all (24, 25, 26, 27, 28) = true := by decide +kernel
theorem ff_z7 : ff_all (28, 29, 30, 31, 32) = true := by decide +kernel
theorem ff_z8 : ff_all (32, 33, 34, 35, 36) = true := by decide +kernel
end Go.Proofs.Ytfeciemlhiclbaa


namespace Go.Proofs.Ytfeciemlhiclbaa

set_option maxRecDepth 100000
theorem ff_z9 : ff_all (36, 37, 38, 39, 40) = true := by decide +kernel
theorem ff_z10 : ff_all (40, 41, 42, 43, 44) = true := by decide +kernel
theorem ff_z11 : ff_all (44, 45, 46, 47, 48) = true := by decide +kernel
theorem ff_z12 : ff_all (48, 49, 50, 51, 52) = true := by decide +kernel
end Go.Proofs.Ytfeciemlhiclbaa


namespace Go.Proofs.Ytfeciemlhiclbaa

set_option maxRecDepth 100000
theorem ff_z13 : ff_all (52, 53, 54, 55, 56) = true := by decide +kernel
theorem ff_z14 : ff_all (56, 57, 58, 59, 60) = true := by decide +kernel
theorem ff_z15 : ff_all (60, 61, 62, 63, 64) = true := by decide +kernel
theorem ff_z16 : ff_all (64, 65, 66, 67, 68) = true := by decide +kernel
end Go.Proofs.Ytfeciemlhiclbaa


namespace Go.Proofs.Ytfeciemlhiclbaa
open Go.RowKit

set_option maxRecDepth 20000
def S8 (F : Nat → Nat → Nat → Int) (a b c d e g : Nat) : Int := F a c e + F a c g + F a d e + F a d g + F b c e + F b c g + F b d e + F b d g
/-- The mean of the corners is near the middle. -/
def Mid (F : Nat → Nat → Nat → Int) (a b c d e g m k h : Nat) : Prop := S8 F a b c d e g ≤ 8 * F m k h + 47223664828696452136 ∧ 8 * F m k h ≤ S8 F a b c d e g + 47223664828696452136
def Src (a i b c j d e k g : Nat) : Int := FX b j k - FX a j k + (FY i d k - FY i c k) + (FZ i j g - FZ i j e)
structure MeshT (p q s : Nat) : Prop where
  okn : ∀ i j k, i < 3 → j < 3 → k < 3 → ff_oks (p + 2 * i) (q + 2 * j) (s + 2 * k) = true
  okc : ∀ i j k, i < 2 → j < 2 → k < 2 → ff_oks (p + 2 * i + 1) (q + 2 * j + 1) (s + 2 * k + 1) = true
  mid : ∀ i j k, i < 2 → j < 2 → k < 2 → Mid FX (p + 2 * i) (p + 2 * i + 2) (q + 2 * j) (q + 2 * j + 2) (s + 2 * k) (s + 2 * k + 2) (p + 2 * i + 1) (q + 2 * j + 1) (s + 2 * k + 1) ∧ Mid FY (p + 2 * i) (p + 2 * i + 2) (q + 2 * j) (q + 2 * j + 2) (s + 2 * k) (s + 2 * k + 2) (p + 2 * i + 1) (q + 2 * j + 1) (s + 2 * k + 1) ∧ Mid FZ (p + 2 * i) (p + 2 * i + 2) (q + 2 * j) (q + 2 * j + 2) (s + 2 * k) (s + 2 * k + 2) (p + 2 * i + 1) (q + 2 * j + 1) (s + 2 * k + 1)
  src : Src p (p + 2) (p + 4) q (q + 2) (q + 4) s (s + 2) (s + 4) ≤ 4427218577690292387 ∧ -4427218577690292387 ≤ Src p (p + 2) (p + 4) q (q + 2) (q + 4) s (s + 2) (s + 4)
theorem mid_of {f g : Nat → Nat → Nat → Nat} {F : Nat → Nat → Nat → Int} {a b c d e j m k h : Nat} (hF : ∀ x y z, F x y z = (f x y z : Int) - g x y z) (hn : ff_near (ff_8 f a b c d e j) (ff_8 g a b c d e j) (f m k h) (g m k h) 47223664828696452136 = true) : Mid F a b c d e j m k h := by
  unfold ff_near at hn
  rw [Bool.and_eq_true] at hn
  have h1 := Nat.le_of_ble_eq_true hn.1
  have h2 := Nat.le_of_ble_eq_true hn.2
  unfold ff_8 at h1 h2
  unfold Mid S8
  simp only [hF]
  omega
theorem mids_of {a b c d e g m k h : Nat} (hn : ff_mid a b c d e g m k h = true) : Mid FX a b c d e g m k h ∧ Mid FY a b c d e g m k h ∧ Mid FZ a b c d e g m k h := by
  unfold ff_mid at hn
  simp only [Bool.and_eq_true] at hn
  exact ⟨mid_of (fun _ _ _ => rfl) hn.1.1, mid_of (fun _ _ _ => rfl) hn.1.2, mid_of (fun _ _ _ => rfl) hn.2⟩
theorem src_of {a i b c j d e k g : Nat} (hn : ff_src a i b c j d e k g = true) : Src a i b c j d e k g ≤ 4427218577690292387 ∧ -4427218577690292387 ≤ Src a i b c j d e k g := by
  unfold ff_src at hn
  rw [Bool.and_eq_true] at hn
  have h1 := Nat.le_of_ble_eq_true hn.1
  have h2 := Nat.le_of_ble_eq_true hn.2
  unfold Src FX FY FZ
  omega
theorem ok3_is {a b c q s : Nat} (h : ff_ok3 a b c q s = true) : ff_oks a q s = true ∧ ff_oks b q s = true ∧ ff_oks c q s = true := by
  unfold ff_ok3 at h
  simp only [Bool.and_eq_true] at h
  exact ⟨h.1.1, h.1.2, h.2⟩
theorem ok9_is {a b c d e f s : Nat} (h : ff_ok9 a b c d e f s = true) : ff_ok3 a b c d s = true ∧ ff_ok3 a b c e s = true ∧ ff_ok3 a b c f s = true := by
  unfold ff_ok9 at h
  simp only [Bool.and_eq_true] at h
  exact ⟨h.1.1, h.1.2, h.2⟩
attribute [local irreducible] ff_oks FX FY FZ
theorem lt3 {i : Nat} (h : i < 3) : i = 0 ∨ i = 1 ∨ i = 2 := by omega
theorem lt2 {i : Nat} (h : i < 2) : i = 0 ∨ i = 1 := by omega
theorem mesh_of {p q s : Nat} (h : ff_mesh (p, p + 1, p + 2, p + 3, p + 4) (q, q + 1, q + 2, q + 3, q + 4) (s, s + 1, s + 2, s + 3, s + 4) = true) : MeshT p q s := by
  unfold ff_mesh at h
  simp only [Bool.and_eq_true] at h
  obtain ⟨⟨⟨⟨⟨⟨⟨⟨⟨⟨⟨⟨⟨⟨⟨⟨⟨⟨⟨n0, n1⟩, n2⟩, c0⟩, c1⟩, c2⟩, c3⟩, c4⟩, c5⟩, c6⟩, c7⟩, m0⟩, m1⟩, m2⟩, m3⟩, m4⟩, m5⟩, m6⟩, m7⟩, sr⟩ := h
  refine ⟨?_, ?_, ?_, src_of sr⟩
  · intro i j k hi hj hk
    have key : ∀ z, ff_ok9 p (p + 2) (p + 4) q (q + 2) (q + 4) z = true → ff_oks (p + 2 * i) (q + 2 * j) z = true := by
      intro z hz
      obtain ⟨r0, r1, r2⟩ := ok9_is hz
      obtain ⟨a0, a1, a2⟩ := ok3_is r0
      obtain ⟨b0, b1, b2⟩ := ok3_is r1
      obtain ⟨d0, d1, d2⟩ := ok3_is r2
      rcases lt3 hi with rfl | rfl | rfl <;> rcases lt3 hj with rfl | rfl | rfl <;> assumption
    rcases lt3 hk with rfl | rfl | rfl
    · exact key _ n0
    · exact key _ n1
    · exact key _ n2
  · intro i j k hi hj hk
    rcases lt2 hi with rfl | rfl <;> rcases lt2 hj with rfl | rfl <;> rcases lt2 hk with rfl | rfl <;> assumption
  · intro i j k hi hj hk
    rcases lt2 hi with rfl | rfl <;> rcases lt2 hj with rfl | rfl <;> rcases lt2 hk with rfl | rfl
    · exact mids_of m0
    · exact mids_of m1
    · exact mids_of m2
    · exact mids_of m3
    · exact mids_of m4
    · exact mids_of m5
    · exact mids_of m6
    · exact mids_of m7
theorem mid_sgn {S M S' M' : Int} (h : S ≤ 8 * M + 47223664828696452136 ∧ 8 * M ≤ S + 47223664828696452136) (h1 : S' = S ∧ M' = M ∨ S' = -S ∧ M' = -M) : S' ≤ 8 * M' + 47223664828696452136 ∧ 8 * M' ≤ S' + 47223664828696452136 := by omega
theorem s8_mx {F : Nat → Nat → Nat → Int} {a b c d e g m k h : Nat} (hF : (∀ p, p ≤ 64 → ∀ q s, F (64 - p) q s = F p q s) ∨ (∀ p, p ≤ 64 → ∀ q s, F (64 - p) q s = -F p q s)) (ha : a ≤ 64) (hb : b ≤ 64) (hm : m ≤ 64) (hM : Mid F a b c d e g m k h) : Mid F (64 - b) (64 - a) c d e g (64 - m) k h := by
  unfold Mid at *
  refine mid_sgn hM ?_
  rcases hF with hF | hF
  · left
    refine ⟨?_, hF m hm k h⟩
    unfold S8
    rw [hF a ha, hF a ha, hF a ha, hF a ha, hF b hb, hF b hb, hF b hb, hF b hb]
    clear hM hF
    grind
  · right
    refine ⟨?_, hF m hm k h⟩
    unfold S8
    rw [hF a ha, hF a ha, hF a ha, hF a ha, hF b hb, hF b hb, hF b hb, hF b hb]
    clear hM hF
    grind
theorem s8_my {F : Nat → Nat → Nat → Int} {a b c d e g m k h : Nat} (hF : (∀ q, q ≤ 64 → ∀ p s, F p (64 - q) s = F p q s) ∨ (∀ q, q ≤ 64 → ∀ p s, F p (64 - q) s = -F p q s)) (hc : c ≤ 64) (hd : d ≤ 64) (hk : k ≤ 64) (hM : Mid F a b c d e g m k h) : Mid F a b (64 - d) (64 - c) e g m (64 - k) h := by
  unfold Mid at *
  refine mid_sgn hM ?_
  rcases hF with hF | hF
  · left
    refine ⟨?_, hF k hk m h⟩
    unfold S8
    rw [hF c hc, hF c hc, hF c hc, hF c hc, hF d hd, hF d hd, hF d hd, hF d hd]
    clear hM hF
    grind
  · right
    refine ⟨?_, hF k hk m h⟩
    unfold S8
    rw [hF c hc, hF c hc, hF c hc, hF c hc, hF d hd, hF d hd, hF d hd, hF d hd]
    clear hM hF
    grind
theorem fx_m : (∀ p, p ≤ 64 → ∀ q s, FX (64 - p) q s = -FX p q s) ∧ (∀ p, p ≤ 64 → ∀ q s, FY (64 - p) q s = FY p q s) ∧ (∀ p, p ≤ 64 → ∀ q s, FZ (64 - p) q s = FZ p q s) := ⟨fun _ hp _ _ => (F_mx hp).1, fun _ hp _ _ => (F_mx hp).2.1, fun _ hp _ _ => (F_mx hp).2.2⟩
theorem fy_m : (∀ q, q ≤ 64 → ∀ p s, FX p (64 - q) s = FX p q s) ∧ (∀ q, q ≤ 64 → ∀ p s, FY p (64 - q) s = -FY p q s) ∧ (∀ q, q ≤ 64 → ∀ p s, FZ p (64 - q) s = FZ p q s) := ⟨fun _ hp _ _ => (F_my hp).1, fun _ hp _ _ => (F_my hp).2.1, fun _ hp _ _ => (F_my hp).2.2⟩
theorem src_sgn {S S' : Int} (h : S ≤ 4427218577690292387 ∧ -4427218577690292387 ≤ S) (e : S' = S) : S' ≤ 4427218577690292387 ∧ -4427218577690292387 ≤ S' := by rw [e]; exact h
theorem MeshT.mx {p q s : Nat} (h : MeshT p q s) (hp : p ≤ 60) : MeshT (60 - p) q s := by
  refine ⟨?_, ?_, ?_, ?_⟩
  · intro i j k hi hj hk
    have := oks_mx (p := p + 2 * (2 - i)) (by omega) (h.okn (2 - i) j k (by omega) hj hk)
    rwa [show 64 - (p + 2 * (2 - i)) = 60 - p + 2 * i by omega] at this
  · intro i j k hi hj hk
    have := oks_mx (p := p + 2 * (1 - i) + 1) (by omega) (h.okc (1 - i) j k (by omega) hj hk)
    rwa [show 64 - (p + 2 * (1 - i) + 1) = 60 - p + 2 * i + 1 by omega] at this
  · intro i j k hi hj hk
    obtain ⟨x, y, z⟩ := h.mid (1 - i) j k (by omega) hj hk
    have e1 : 60 - p + 2 * i = 64 - (p + 2 * (1 - i) + 2) := by omega
    have e2 : 60 - p + 2 * i + 2 = 64 - (p + 2 * (1 - i)) := by omega
    have e3 : 60 - p + 2 * i + 1 = 64 - (p + 2 * (1 - i) + 1) := by omega
    have k1 : p + 2 * (1 - i) + 2 ≤ 64 := by omega
    rw [e3, e2, e1]
    exact ⟨s8_mx (.inr fx_m.1) (by omega) (by omega) (by omega) x, s8_mx (.inl fx_m.2.1) (by omega) (by omega) (by omega) y, s8_mx (.inl fx_m.2.2) (by omega) (by omega) (by omega) z⟩
  · have hs := h.src
    have e1 : 60 - p = 64 - (p + 4) := by omega
    have e2 : 60 - p + 2 = 64 - (p + 2) := by omega
    have e3 : 60 - p + 4 = 64 - p := by omega
    have k4 : p + 4 ≤ 64 := by omega
    have k2 : p + 2 ≤ 64 := by omega
    have k0 : p ≤ 64 := by omega
    rw [e3, e2, e1]
    refine src_sgn hs ?_
    unfold Src
    rw [(F_mx k4).1, (F_mx k0).1, (F_mx k2).2.1, (F_mx k2).2.1, (F_mx k2).2.2, (F_mx k2).2.2]
    clear hs h
    grind
theorem MeshT.my {p q s : Nat} (h : MeshT p q s) (hq : q ≤ 60) : MeshT p (60 - q) s := by
  refine ⟨?_, ?_, ?_, ?_⟩
  · intro i j k hi hj hk
    have := oks_my (q := q + 2 * (2 - j)) (by omega) (h.okn i (2 - j) k hi (by omega) hk)
    rwa [show 64 - (q + 2 * (2 - j)) = 60 - q + 2 * j by omega] at this
  · intro i j k hi hj hk
    have := oks_my (q := q + 2 * (1 - j) + 1) (by omega) (h.okc i (1 - j) k hi (by omega) hk)
    rwa [show 64 - (q + 2 * (1 - j) + 1) = 60 - q + 2 * j + 1 by omega] at this
  · intro i j k hi hj hk
    obtain ⟨x, y, z⟩ := h.mid i (1 - j) k hi (by omega) hk
    have e1 : 60 - q + 2 * j = 64 - (q + 2 * (1 - j) + 2) := by omega
    have e2 : 60 - q + 2 * j + 2 = 64 - (q + 2 * (1 - j)) := by omega
    have e3 : 60 - q + 2 * j + 1 = 64 - (q + 2 * (1 - j) + 1) := by omega
    have k1 : q + 2 * (1 - j) + 2 ≤ 64 := by omega
    rw [e3, e2, e1]
    exact ⟨s8_my (.inl fy_m.1) (by omega) (by omega) (by omega) x, s8_my (.inr fy_m.2.1) (by omega) (by omega) (by omega) y, s8_my (.inl fy_m.2.2) (by omega) (by omega) (by omega) z⟩
  · have hs := h.src
    have e1 : 60 - q = 64 - (q + 4) := by omega
    have e2 : 60 - q + 2 = 64 - (q + 2) := by omega
    have e3 : 60 - q + 4 = 64 - q := by omega
    have k4 : q + 4 ≤ 64 := by omega
    have k2 : q + 2 ≤ 64 := by omega
    have k0 : q ≤ 64 := by omega
    rw [e3, e2, e1]
    refine src_sgn hs ?_
    unfold Src
    rw [(F_my k2).1, (F_my k2).1, (F_my k4).2.1, (F_my k0).2.1, (F_my k2).2.2, (F_my k2).2.2]
    clear hs h
    grind
theorem tri_mem {a : Nat} (h : 8 ≤ a) (h2 : a < 17) : (4 * a, 4 * a + 1, 4 * a + 2, 4 * a + 3, 4 * a + 4) ∈ ff_tri := by
  rcases (by omega : a = 8 ∨ a = 9 ∨ a = 10 ∨ a = 11 ∨ a = 12 ∨ a = 13 ∨ a = 14 ∨ a = 15 ∨ a = 16) with rfl | rfl | rfl | rfl | rfl | rfl | rfl | rfl | rfl <;> decide
theorem z_all {c : Nat} (h : c < 17) : ff_all (4 * c, 4 * c + 1, 4 * c + 2, 4 * c + 3, 4 * c + 4) = true := by
  rcases (by omega : c = 0 ∨ c = 1 ∨ c = 2 ∨ c = 3 ∨ c = 4 ∨ c = 5 ∨ c = 6 ∨ c = 7 ∨ c = 8 ∨ c = 9 ∨ c = 10 ∨ c = 11 ∨ c = 12 ∨ c = 13 ∨ c = 14 ∨ c = 15 ∨ c = 16) with rfl | rfl | rfl | rfl | rfl | rfl | rfl | rfl | rfl | rfl | rfl | rfl | rfl | rfl | rfl | rfl | rfl
  · exact ff_z0
  · exact ff_z1
  · exact ff_z2
  · exact ff_z3
  · exact ff_z4
  · exact ff_z5
  · exact ff_z6
  · exact ff_z7
  · exact ff_z8
  · exact ff_z9
  · exact ff_z10
  · exact ff_z11
  · exact ff_z12
  · exact ff_z13
  · exact ff_z14
  · exact ff_z15
  · exact ff_z16
theorem mesh_hi {a b c : Nat} (ha : 8 ≤ a) (ha2 : a < 17) (hb : 8 ≤ b) (hb2 : b < 17) (hc : c < 17) : MeshT (4 * a) (4 * b) (4 * c) := by
  have h := z_all hc
  unfold ff_all at h
  exact mesh_of (List.all_eq_true.1 (List.all_eq_true.1 h _ (tri_mem ha ha2)) _ (tri_mem hb hb2))
theorem mesh_all {a b c : Nat} (ha : a < 17) (hb : b < 17) (hc : c < 17) : MeshT (4 * a) (4 * b) (4 * c) := by
  have h1 : ∀ b, 8 ≤ b → b < 17 → MeshT (4 * a) (4 * b) (4 * c) := fun b hb hb2 => by
    rcases Nat.lt_or_ge a 8 with g | g
    · have := (mesh_hi (a := 15 - a) (b := b) (c := c) (by omega) (by omega) hb hb2 hc).mx (by omega)
      rwa [show 60 - 4 * (15 - a) = 4 * a by omega] at this
    · exact mesh_hi g ha hb hb2 hc
  rcases Nat.lt_or_ge b 8 with g | g
  · have := (h1 (15 - b) (by omega) (by omega)).my (by omega)
    rwa [show 60 - 4 * (15 - b) = 4 * b by omega] at this
  · exact h1 b g hb
end Go.Proofs.Ytfeciemlhiclbaa


namespace Go.Proofs.Ytfeciemlhiclbaa
open Go.RowKit

set_option maxRecDepth 20000
/-- A word is v units of 2^-25. -/
def vk (x : Nat) (v : Int) : Bool := decide (x < 2 ^ FloatKind.f32.format.width) && decide (rng FloatKind.f32.format x < FloatKind.f32.format.infRung) && decide (sval FloatKind.f32.format x = v * 2 ^ 124)
theorem vk_qv {x : Nat} {v : Int} (h : vk x v = true) : qv x ((v : Rat) * k25) := by
  unfold vk at h
  simp only [Bool.and_eq_true, decide_eq_true_eq] at h
  refine ⟨_, ⟨h.1.1, h.1.2, h.2⟩, ?_⟩
  have e : (2 : Int) ^ 124 * 33554432 = 16777216 * UU := by rw [BB_is]; decide
  have e2 := congrArg (fun z : Int => (z : Rat)) e
  simp only [Rat.intCast_mul] at e2
  have e3 : WW = (((2 : Int) ^ 124 : Int) : Rat) * 33554432 := by
    unfold WW
    rw [← e, Rat.intCast_mul]; rfl
  rw [Rat.intCast_mul, e3]
  unfold k25
  generalize (((2 : Int) ^ 124 : Int) : Rat) = u
  grind
def lz9 (c : Nat) : Nat := fop .add .f32 (qw c) 1082130432
theorem w_node : ∀ k : Fin 17, ∀ j : Fin 3, vk (fop .add .f32 (qw k) (fop .mul .f32 (FloatKind.f32.nearest ((j.val : Nat) : Int)) 1040187392)) (((4 * k.val + 2 * j.val : Nat) : Int) * 2097152 - 67108864) = true := by decide +kernel
theorem w_nodez : ∀ k : Fin 17, ∀ j : Fin 3, (vk (fop .add .f32 (lz9 k) (fop .mul .f32 (FloatKind.f32.nearest ((j.val : Nat) : Int)) 1040187392)) ((((4 * k.val + 2 * j.val : Nat) : Int) + 32) * 2097152) && vk (fop .sub .f32 (fop .add .f32 (lz9 k) (fop .mul .f32 (FloatKind.f32.nearest ((j.val : Nat) : Int)) 1040187392)) 0) ((((4 * k.val + 2 * j.val : Nat) : Int) + 32) * 2097152)) = true := by decide +kernel
theorem w_mid : ∀ k : Fin 17, ∀ j : Fin 2, vk (fop .add .f32 (qw k) (fop .mul .f32 (mid 3 j) 1040187392)) (((4 * k.val + 2 * j.val + 1 : Nat) : Int) * 2097152 - 67108864) = true := by decide +kernel
theorem w_midz : ∀ k : Fin 17, ∀ j : Fin 2, (vk (fop .add .f32 (lz9 k) (fop .mul .f32 (mid 3 j) 1040187392)) ((((4 * k.val + 2 * j.val + 1 : Nat) : Int) + 32) * 2097152) && vk (fop .sub .f32 (fop .add .f32 (lz9 k) (fop .mul .f32 (mid 3 j) 1040187392)) 0) ((((4 * k.val + 2 * j.val + 1 : Nat) : Int) + 32) * 2097152)) = true := by decide +kernel
def frm (a b c : Nat) : V3 := (qw a, qw b, lz9 c)
section
variable {a b c i j k : Nat}
theorem lat_node (ha : a < 17) (hb : b < 17) (hc : c < 17) (hi : i < 3) (hj : j < 3) (hk : k < 3) : Lat (place3 (frm a b c) 1040187392 (FloatKind.f32.nearest (i : Int)) (FloatKind.f32.nearest (j : Int)) (FloatKind.f32.nearest (k : Int))) (4 * a + 2 * i) (4 * b + 2 * j) (4 * c + 2 * k) := by
  have z := w_nodez ⟨c, hc⟩ ⟨k, hk⟩
  rw [Bool.and_eq_true] at z
  exact ⟨vk_qv (w_node ⟨a, ha⟩ ⟨i, hi⟩), vk_qv (w_node ⟨b, hb⟩ ⟨j, hj⟩), vk_qv z.1, vk_qv z.2, by omega, by omega, by omega, (mesh_all ha hb hc).okn i j k hi hj hk⟩
theorem lat_mid (ha : a < 17) (hb : b < 17) (hc : c < 17) (hi : i < 2) (hj : j < 2) (hk : k < 2) : Lat (place3 (frm a b c) 1040187392 (mid 3 i) (mid 3 j) (mid 3 k)) (4 * a + 2 * i + 1) (4 * b + 2 * j + 1) (4 * c + 2 * k + 1) := by
  have z := w_midz ⟨c, hc⟩ ⟨k, hk⟩
  rw [Bool.and_eq_true] at z
  exact ⟨vk_qv (w_mid ⟨a, ha⟩ ⟨i, hi⟩), vk_qv (w_mid ⟨b, hb⟩ ⟨j, hj⟩), vk_qv z.1, vk_qv z.2, by omega, by omega, by omega, (mesh_all ha hb hc).okc i j k hi hj hk⟩
end
end Go.Proofs.Ytfeciemlhiclbaa


namespace Go.Proofs.Ytfeciemlhiclbaa
open Go.RowKit

set_option maxRecDepth 20000
theorem cel_x : ∀ k : Fin 17, ∀ j : Fin 2, celI (crd (fop .add .f32 (qw k) (fop .mul .f32 (mid 3 j) 1040187392)) (qw k) 1040187392) 3 = (j.val, 1056964608) := by decide +kernel
theorem cel_z : ∀ k : Fin 17, ∀ j : Fin 2, celI (crd (fop .add .f32 (lz9 k) (fop .mul .f32 (mid 3 j) 1040187392)) (lz9 k) 1040187392) 3 = (j.val, 1056964608) := by decide +kernel
theorem qv_half : qv 1056964608 (1 / 2) := by
  have h : vk 1056964608 16777216 = true := by decide +kernel
  have := vk_qv h
  rwa [show (((16777216 : Int) : Rat) * k25) = 1 / 2 by decide +kernel] at this
attribute [local irreducible] D9 D7 UU WW W9 segF fop FX FY FZ fieldI
section
variable {x y : Nat} {A B E G : Rat} {v w : V3} {a b c a' b' c' : Rat}
theorem lerp (hx : nr x A E) (hy : nr y B E) (ha : Rg A 8) (hb : Rg B 8) (hE : E ≤ 1 / 10) (hG : 2 * E + 100 * u24 ≤ G) : nr (fop .add .f32 x (fop .mul .f32 (fop .sub .f32 y x) 1056964608)) ((A + B) / 2) G ∧ Rg ((A + B) / 2) 8 := by
  have hu : 0 ≤ u24 := by decide +kernel
  have hu1 : u24 ≤ 1 / 1000000 := by decide +kernel
  have hE0 : 0 ≤ E := by obtain ⟨_, _, h⟩ := hx; exact h.nn
  have m1 : E * u24 ≤ 1 / 10 * u24 := Rat.mul_le_mul_of_nonneg_right hE hu
  have m2 : u24 * u24 ≤ 1 / 1000000 * u24 := Rat.mul_le_mul_of_nonneg_right hu1 hu
  have m3 : 0 ≤ u24 * u24 := Rat.mul_nonneg hu hu
  have m4 : 0 ≤ E * u24 := Rat.mul_nonneg hE0 hu
  have h1 := nr_sub hy hx ((hb.sub ha).mono (B := 16) (by decide +kernel)) (G := 2 * E + 34 * u24) (by grind) (by grind)
  have rh : Rg (1 / 2 : Rat) (1 / 2) := ⟨by decide +kernel, by decide +kernel⟩
  have h2 := nr_mul h1 (.of qv_half) ((hb.sub ha).mono (B := 16) (by decide +kernel)) rh (G := E + 40 * u24) (by grind) (by grind)
  have e : A + (B - A) * (1 / 2) = (A + B) / 2 := by grind
  have hm : Rg ((A + B) / 2) 8 := by
    obtain ⟨a1, a2⟩ := ha
    obtain ⟨b1, b2⟩ := hb
    constructor <;> grind
  have h3 := nr_add hx h2 (by rw [e]; exact hm) (G := G) (by grind) (by grind)
  rw [e] at h3
  exact ⟨h3, hm⟩
theorem lerp3 (h : nr3 v a b c E ∧ Rg3 a b c 8) (h' : nr3 w a' b' c' E ∧ Rg3 a' b' c' 8) (hE : E ≤ 1 / 10) (hG : 2 * E + 100 * u24 ≤ G) : nr3 (between3 v w 1056964608) ((a + a') / 2) ((b + b') / 2) ((c + c') / 2) G ∧ Rg3 ((a + a') / 2) ((b + b') / 2) ((c + c') / 2) 8 := by
  obtain ⟨x1, x2⟩ := lerp h.1.x h'.1.x h.2.x h'.2.x hE hG
  obtain ⟨y1, y2⟩ := lerp h.1.y h'.1.y h.2.y h'.2.y hE hG
  obtain ⟨z1, z2⟩ := lerp h.1.z h'.1.z h.2.z h'.2.z hE hG
  exact ⟨⟨x1, y1, z1⟩, ⟨x2, y2, z2⟩⟩
end
section
variable {L : List V3} {a b c i j k : Nat}
/-- The ring alone. -/
def rW (L : List V3) : List Wr := [(L, true, 1065353216)]
theorem node_f (hL : Ring8 L) (ha : a < 17) (hb : b < 17) (hc : c < 17) (hi : i < 3) (hj : j < 3) (hk : k < 3) : nr3 (mval (fiK (rW L) (frm a b c) 1040187392 3 3 27) 3 3 i j k) ((FX (4 * a + 2 * i) (4 * b + 2 * j) (4 * c + 2 * k) : Rat) * k69) ((FY (4 * a + 2 * i) (4 * b + 2 * j) (4 * c + 2 * k) : Rat) * k69) ((FZ (4 * a + 2 * i) (4 * b + 2 * j) (4 * c + 2 * k) : Rat) * k69) (10700 * u24) ∧ Rg3 ((FX (4 * a + 2 * i) (4 * b + 2 * j) (4 * c + 2 * k) : Rat) * k69) ((FY (4 * a + 2 * i) (4 * b + 2 * j) (4 * c + 2 * k) : Rat) * k69) ((FZ (4 * a + 2 * i) (4 * b + 2 * j) (4 * c + 2 * k) : Rat) * k69) 8 := by
  have e : mval (fiK (rW L) (frm a b c) 1040187392 3 3 27) 3 3 i j k = fieldI (rW L) (place3 (frm a b c) 1040187392 (FloatKind.f32.nearest (i : Int)) (FloatKind.f32.nearest (j : Int)) (FloatKind.f32.nearest (k : Int))) := by
    have hn : nd 3 3 i j k < 27 := by unfold nd; omega
    unfold mval
    rw [← plc_nd (f := frm a b c) (st := 1040187392) (W := 3) (H := 3) (z := k) hi hj]
    simp [fiK, List.getD, hn]
  rw [e]
  exact ring8_field hL (lat_node ha hb hc hi hj hk)
theorem mid_f (hL : Ring8 L) (ha : a < 17) (hb : b < 17) (hc : c < 17) (hi : i < 2) (hj : j < 2) (hk : k < 2) : nr3 (valI (fiK (rW L) (frm a b c) 1040187392 3 3 27) (frm a b c) 1040187392 3 3 3 (place3 (frm a b c) 1040187392 (mid 3 i) (mid 3 j) (mid 3 k))) ((S8 FX (4 * a + 2 * i) (4 * a + 2 * i + 2) (4 * b + 2 * j) (4 * b + 2 * j + 2) (4 * c + 2 * k) (4 * c + 2 * k + 2) : Rat) / 8 * k69) ((S8 FY (4 * a + 2 * i) (4 * a + 2 * i + 2) (4 * b + 2 * j) (4 * b + 2 * j + 2) (4 * c + 2 * k) (4 * c + 2 * k + 2) : Rat) / 8 * k69) ((S8 FZ (4 * a + 2 * i) (4 * a + 2 * i + 2) (4 * b + 2 * j) (4 * b + 2 * j + 2) (4 * c + 2 * k) (4 * c + 2 * k + 2) : Rat) / 8 * k69) (86500 * u24) ∧ Rg3 ((S8 FX (4 * a + 2 * i) (4 * a + 2 * i + 2) (4 * b + 2 * j) (4 * b + 2 * j + 2) (4 * c + 2 * k) (4 * c + 2 * k + 2) : Rat) / 8 * k69) ((S8 FY (4 * a + 2 * i) (4 * a + 2 * i + 2) (4 * b + 2 * j) (4 * b + 2 * j + 2) (4 * c + 2 * k) (4 * c + 2 * k + 2) : Rat) / 8 * k69) ((S8 FZ (4 * a + 2 * i) (4 * a + 2 * i + 2) (4 * b + 2 * j) (4 * b + 2 * j + 2) (4 * c + 2 * k) (4 * c + 2 * k + 2) : Rat) / 8 * k69) 8 := by
  have n : ∀ i j k, i < 3 → j < 3 → k < 3 → _ := fun i j k hi hj hk => node_f hL ha hb hc hi hj hk
  have x1 : celI (crd (place3 (frm a b c) 1040187392 (mid 3 i) (mid 3 j) (mid 3 k)).1 (frm a b c).1 1040187392) (3 : Nat) = (i, 1056964608) := cel_x ⟨a, ha⟩ ⟨i, hi⟩
  have x2 : celI (crd (place3 (frm a b c) 1040187392 (mid 3 i) (mid 3 j) (mid 3 k)).2.1 (frm a b c).2.1 1040187392) (3 : Nat) = (j, 1056964608) := cel_x ⟨b, hb⟩ ⟨j, hj⟩
  have x3 : celI (crd (place3 (frm a b c) 1040187392 (mid 3 i) (mid 3 j) (mid 3 k)).2.2 (frm a b c).2.2 1040187392) (3 : Nat) = (k, 1056964608) := cel_z ⟨c, hc⟩ ⟨k, hk⟩
  unfold valI
  rw [x1, x2, x3]
  have h3 : ¬ (3 : Nat) = 1 := by decide
  unfold valV colV rowV
  simp only [if_neg h3]
  generalize fiK (rW L) (frm a b c) 1040187392 3 3 27 = vs at *
  have i3 : i < 3 := by omega
  have j3 : j < 3 := by omega
  have k3 : k < 3 := by omega
  have i4 : i + 1 < 3 := by omega
  have j4 : j + 1 < 3 := by omega
  have k4 : k + 1 < 3 := by omega
  have r1 := lerp3 (n i j k i3 j3 k3) (n (i + 1) j k i4 j3 k3) (by decide +kernel) (G := 21500 * u24) (by decide +kernel)
  have r2 := lerp3 (n i (j + 1) k i3 j4 k3) (n (i + 1) (j + 1) k i4 j4 k3) (by decide +kernel) (G := 21500 * u24) (by decide +kernel)
  have r3 := lerp3 (n i j (k + 1) i3 j3 k4) (n (i + 1) j (k + 1) i4 j3 k4) (by decide +kernel) (G := 21500 * u24) (by decide +kernel)
  have r4 := lerp3 (n i (j + 1) (k + 1) i3 j4 k4) (n (i + 1) (j + 1) (k + 1) i4 j4 k4) (by decide +kernel) (G := 21500 * u24) (by decide +kernel)
  have q1 := lerp3 r1 r2 (by decide +kernel) (G := 43100 * u24) (by decide +kernel)
  have q2 := lerp3 r3 r4 (by decide +kernel) (G := 43100 * u24) (by decide +kernel)
  have t := lerp3 q1 q2 (by decide +kernel) (G := 86500 * u24) (by decide +kernel)
  have e1 : 4 * a + 2 * (i + 1) = 4 * a + 2 * i + 2 := by omega
  have e2 : 4 * b + 2 * (j + 1) = 4 * b + 2 * j + 2 := by omega
  have e3 : 4 * c + 2 * (k + 1) = 4 * c + 2 * k + 2 := by omega
  rw [e1, e2, e3] at t
  have g : ∀ F : Nat → Nat → Nat → Int, ((((F (4 * a + 2 * i) (4 * b + 2 * j) (4 * c + 2 * k) : Rat) * k69 + (F (4 * a + 2 * i + 2) (4 * b + 2 * j) (4 * c + 2 * k) : Rat) * k69) / 2 + ((F (4 * a + 2 * i) (4 * b + 2 * j + 2) (4 * c + 2 * k) : Rat) * k69 + (F (4 * a + 2 * i + 2) (4 * b + 2 * j + 2) (4 * c + 2 * k) : Rat) * k69) / 2) / 2 + (((F (4 * a + 2 * i) (4 * b + 2 * j) (4 * c + 2 * k + 2) : Rat) * k69 + (F (4 * a + 2 * i + 2) (4 * b + 2 * j) (4 * c + 2 * k + 2) : Rat) * k69) / 2 + ((F (4 * a + 2 * i) (4 * b + 2 * j + 2) (4 * c + 2 * k + 2) : Rat) * k69 + (F (4 * a + 2 * i + 2) (4 * b + 2 * j + 2) (4 * c + 2 * k + 2) : Rat) * k69) / 2) / 2) / 2 = (S8 F (4 * a + 2 * i) (4 * a + 2 * i + 2) (4 * b + 2 * j) (4 * b + 2 * j + 2) (4 * c + 2 * k) (4 * c + 2 * k + 2) : Rat) / 8 * k69 := by
    intro F
    unfold S8
    simp only [Rat.intCast_add]
    clear t q1 q2 r1 r2 r3 r4 n x1 x2 x3 h3
    grind
  exact ⟨t.1.to (g FX) (g FY) (g FZ), t.2.to (g FX) (g FY) (g FZ)⟩
end
end Go.Proofs.Ytfeciemlhiclbaa


namespace Go.Proofs.Ytfeciemlhiclbaa
open Go.RowKit

set_option maxRecDepth 20000
attribute [local irreducible] D9 D7 UU WW W9
section
variable {x y : Nat} {p q B : Rat}
theorem nn_word {x r : Nat} {z : Rat} (hz : qv x z) (h : x = FloatKind.f32.format.word false r) (hr : r ≤ FloatKind.f32.format.infRung) : 0 ≤ z := by
  obtain ⟨Z, hZ, eZ⟩ := hz
  have hsg : sgn FloatKind.f32.format x = false := by rw [h]; exact (rng_word .f32 false hr).2
  have hZ0 := hZ.sgn.2 hsg
  have h0 : (0 : Rat) ≤ (Z : Rat) := Rat.intCast_le_intCast.2 hZ0
  rw [eZ] at h0
  exact Rat.le_of_mul_le_mul_right (c := WW) (by rw [Rat.zero_mul]; exact h0) WW_pos
theorem nearest_word (M : Nat) (e : Int) : ∃ r, FloatKind.f32.format.nearest false M e = FloatKind.f32.format.word false r ∧ r ≤ FloatKind.f32.format.infRung := by
  unfold Ieee.Format.nearest
  split
  · exact ⟨0, rfl, Nat.zero_le _⟩
  · exact ⟨_, rfl, Nat.min_le_right _ _⟩
theorem qv_sq_nn (hx : qv x p) (h : Rg (p * p) B) (hB : B ≤ 1000000000000000000) : ∃ z, qv (fop .mul .f32 x x) z ∧ 0 ≤ z ∧ Rg (z - p * p) ((1 + 2 * B) * u24) := by
  obtain ⟨z, hz, hr⟩ := rd_mul hx hx h hB
  refine ⟨z, hz, ?_, hr⟩
  obtain ⟨X, hX, _⟩ := hx
  obtain ⟨m, e, a1, a2⟩ := read_number FloatKind.f32.format hX.2.1
  obtain ⟨r, r1, r2⟩ := nearest_word (m * m) (FloatKind.f32.format.leastPlace + (e : Int) + (FloatKind.f32.format.leastPlace + (e : Int)))
  refine nn_word hz ?_ r2
  rw [← r1]
  unfold fop floatBits Ieee.Format.mul
  simp only [a1, Ieee.Datum.product, Option.map_some, Option.getD_some, Bool.xor_self]
  rfl
theorem qv_add_nn (hx : qv x p) (hy : qv y q) (hp : 0 ≤ p) (hq : 0 ≤ q) (h : Rg (p + q) B) (hB : B ≤ 1000000000000000000) : ∃ z, qv (fop .add .f32 x y) z ∧ 0 ≤ z ∧ Rg (z - (p + q)) ((1 + 2 * B) * u24) := by
  obtain ⟨z, hz, hr⟩ := rd_add hx hy h hB
  by_cases he : p + q = 0
  · have p0 : p = 0 := by grind
    have q0 : q = 0 := by grind
    subst p0; subst q0
    have hz0 := qv_add00 hx hy
    refine ⟨0, hz0, Rat.le_refl, ?_⟩
    have : (0 : Rat) - (0 + 0) = 0 := by decide +kernel
    rw [this]
    have hB0 := h.nn
    have := Rat.mul_nonneg (show 0 ≤ 1 + 2 * B by grind) (show 0 ≤ u24 by decide +kernel)
    exact ⟨by grind, this⟩
  · refine ⟨z, hz, ?_, hr⟩
    obtain ⟨X, hX, eX⟩ := hx
    obtain ⟨Y, hY, eY⟩ := hy
    obtain ⟨s, M, k, e1, e2, e3, e4⟩ := sum_units hX.2.1 hY.2.1 false
    simp only [Bool.false_eq_true, if_false] at e1 e2 e3 e4
    rw [hX.2.2, hY.2.2] at e3 e4
    have hXY : 0 < X + Y := by
      rw [← Rat.intCast_lt_intCast, Rat.intCast_add, eX, eY]
      have hpq : 0 < p + q := by grind
      have := Rat.mul_pos hpq WW_pos
      have e0 : ((0 : Int) : Rat) = 0 := rfl
      rw [e0]
      grind
    have hs : s = false := by
      cases s with
      | false => rfl
      | true => have := e3 rfl; omega
    subst hs
    obtain ⟨r, r1, r2⟩ := nearest_word M (FloatKind.f32.format.leastPlace + (k : Int))
    refine nn_word hz ?_ r2
    rw [← r1]
    have e0 : fop .add .f32 x y = (((FloatKind.f32.format.read x).sum (FloatKind.f32.format.read y)).map FloatKind.f32.format.write).getD (qn .f32) := by unfold fop; rfl
    rw [e0, e1]
    rfl
end
/-- A vector of small numbers is short. -/
theorem long_small {w : V3} {a b c : Rat} (h : qv3 w a b c) (hr : Rg3 a b c (16 / 1000)) : ∃ z, qv (long3 w) z ∧ z ≤ 4 / 100 := by
  have key : ∀ {d : Rat}, Rg d (16 / 1000) → Rg (d * d) (1 / 1000) := fun hd => (rmul hd hd).mono (by decide +kernel)
  have e9 : (1 + 2 * (1 / 1000)) * u24 ≤ 1 / 100000 := by decide +kernel
  have e8 : (1 + 2 * (1 / 100)) * u24 ≤ 1 / 100000 := by decide +kernel
  obtain ⟨p, p1, p2, p3, p4⟩ := qv_sq_nn h.x (key hr.x) (by decide +kernel)
  obtain ⟨q, q1, q2, q3, q4⟩ := qv_sq_nn h.y (key hr.y) (by decide +kernel)
  obtain ⟨r, r1, r2, r3, r4⟩ := qv_sq_nn h.z (key hr.z) (by decide +kernel)
  have sm : ∀ {d v : Rat}, Rg d (16 / 1000) → v - d * d ≤ (1 + 2 * (1 / 1000)) * u24 → v ≤ 27 / 100000 := fun hd hv => by
    have := (rmul hd hd).2
    have e : (16 / 1000 : Rat) * (16 / 1000) ≤ 256 / 1000000 := by decide +kernel
    grind
  have p5 := sm hr.x p4
  have q5 := sm hr.y q4
  have r5 := sm hr.z r4
  clear p3 p4 q3 q4 r3 r4 sm key
  obtain ⟨s, s1, s2, s3, s4⟩ := qv_add_nn p1 q1 p2 q2 (B := 1 / 100) ⟨by grind, by grind⟩ (by decide +kernel)
  have s5 : s ≤ 56 / 100000 := by grind
  clear s3 s4
  obtain ⟨v, v1, v2, v3, v4⟩ := qv_add_nn s1 r1 s2 r2 (B := 1 / 100) ⟨by grind, by grind⟩ (by decide +kernel)
  have v5 : v ≤ 9 / 10000 := by grind
  clear v3 v4
  obtain ⟨z, ω, z1, z2, z3, z4, _⟩ := qv_sqrt (k := 0) (K := 1) (show (1 : Rat) = ((2 ^ 0 : Nat) : Rat) by decide +kernel) (by decide) v1 v2 (by grind)
  have hω : ω ≤ 3 / 100 := rsq_le (by decide +kernel) (Rat.le_trans z3 (Rat.le_trans v5 (by decide +kernel)))
  have e7 : (1 : Rat) / 4194304 ≤ 1 / 1000 := by decide +kernel
  exact ⟨z, z1, by grind⟩
end Go.Proofs.Ytfeciemlhiclbaa


namespace Go.Proofs.Ytfeciemlhiclbaa
open Go.RowKit

set_option maxRecDepth 20000
attribute [local irreducible] D9 D7 UU WW W9 segF fop FX FY FZ fieldI S8 valI
theorem mid_q {S M : Int} (h : S ≤ 8 * M + 47223664828696452136 ∧ 8 * M ≤ S + 47223664828696452136) : Rg ((S : Rat) / 8 * k69 - (M : Rat) * k69) (101 / 10000) := by
  have q1 := Rat.intCast_le_intCast.2 h.1
  have q2 := Rat.intCast_le_intCast.2 h.2
  simp only [Rat.intCast_add, Rat.intCast_mul] at q1 q2
  have e8 : ((8 : Int) : Rat) = 8 := rfl
  have eT : ((47223664828696452136 : Int) : Rat) = 47223664828696452136 := rfl
  rw [e8, eT] at q1 q2
  have hk : 0 ≤ k69 / 8 := by decide +kernel
  have m1 := Rat.mul_le_mul_of_nonneg_right q1 hk
  have m2 := Rat.mul_le_mul_of_nonneg_right q2 hk
  have e : 47223664828696452136 * (k69 / 8) ≤ 101 / 10000 := by decide +kernel
  constructor <;> grind
theorem dif_q {x y : Nat} {A B : Rat} (hx : nr x A (86500 * u24)) (hy : nr y B (10700 * u24)) (h : Rg (A - B) (101 / 10000)) : ∃ z, qv (fop .sub .f32 x y) z ∧ Rg z (16 / 1000) := by
  obtain ⟨z, z1, z2⟩ := nr_sub hx hy h (G := 97300 * u24) (by decide +kernel) (by decide +kernel)
  refine ⟨z, z1, ?_⟩
  have e : 97300 * u24 ≤ 58 / 10000 := by decide +kernel
  obtain ⟨a1, a2⟩ := z2
  obtain ⟨b1, b2⟩ := h
  constructor <;> grind
section
variable {L : List V3} {a b c i j k : Nat}
theorem wd_small (hL : Ring8 L) (ha : a < 17) (hb : b < 17) (hc : c < 17) (hi : i < 2) (hj : j < 2) (hk : k < 2) : ∃ z, qv (wdist (rW L) (fiK (rW L) (frm a b c) 1040187392 3 3 27) (frm a b c) 1040187392 3 3 3 (place3 (frm a b c) 1040187392 (mid 3 i) (mid 3 j) (mid 3 k))) z ∧ z ≤ 4 / 100 := by
  have hv := (mid_f hL ha hb hc hi hj hk).1
  have hf := (ring8_field hL (lat_mid ha hb hc hi hj hk)).1
  obtain ⟨m1, m2, m3⟩ := (mesh_all ha hb hc).mid i j k hi hj hk
  obtain ⟨x, x1, x2⟩ := dif_q hv.x hf.x (mid_q m1)
  obtain ⟨y, y1, y2⟩ := dif_q hv.y hf.y (mid_q m2)
  obtain ⟨z, z1, z2⟩ := dif_q hv.z hf.z (mid_q m3)
  exact long_small (w := sub3 _ _) ⟨x1, y1, z1⟩ ⟨x2, y2, z2⟩
theorem wb_small (hL : Ring8 L) (ha : a < 17) (hb : b < 17) (hc : c < 17) : ∀ k, k ≤ 27 → ∃ w, qv (wbU (rW L) (fiK (rW L) (frm a b c) 1040187392 3 3 27) (frm a b c) 1040187392 3 3 3 k) w ∧ 0 ≤ w ∧ w ≤ 4 / 100
  | 0, _ => ⟨0, qv_zero, Rat.le_refl, by decide +kernel⟩
  | k + 1, hk => by
    obtain ⟨w, w1, w2, w3⟩ := wb_small hL ha hb hc k (by omega)
    rw [wbU]
    split
    · rename_i hact
      unfold actK act at hact
      simp only [Bool.and_eq_true, decide_eq_true_eq] at hact
      obtain ⟨z, z1, z2⟩ := wd_small (i := k % 3) (j := k / 3 % 3) (k := k / 3 / 3) hL ha hb hc (by omega) (by omega) (by omega)
      unfold wbN
      split
      · rename_i hg
        rw [Bool.and_eq_true] at hg
        refine ⟨z, z1, ?_, z2⟩
        rcases (Rat.le_total : w ≤ z ∨ z ≤ w) with g | g
        · exact Rat.le_trans w2 g
        · have h9 := qv_ngt z1 w1 g
          have h8 := hg.2
          unfold mplc at h8
          rw [h9] at h8
          cases h8
      · exact ⟨w, w1, w2, w3⟩
    · exact ⟨w, w1, w2, w3⟩
/-! ### sources -/
theorem tw_qv : qv (srcTw 1040187392) (1 / 4) := by
  have h : vk (srcTw 1040187392) 8388608 = true := by decide +kernel
  have := vk_qv h
  rwa [show (((8388608 : Int) : Rat) * k25) = 1 / 4 by decide +kernel] at this
theorem quo4 {x y : Nat} {A B : Rat} (hx : nr x A (10700 * u24)) (hy : nr y B (10700 * u24)) (ha : Rg A 8) (hb : Rg B 8) : nr (fop .quo .f32 (fop .sub .f32 x y) (srcTw 1040187392)) (4 * (A - B)) (86300 * u24) ∧ Rg (4 * (A - B)) 64 := by
  have hAB := (ha.sub hb).mono (B := 16) (by decide +kernel)
  obtain ⟨p, p1, p2, p3⟩ := nr_sub hx hy hAB (G := 21440 * u24) (by decide +kernel) (by decide +kernel)
  obtain ⟨g1, g2⟩ := hAB
  have e0 : 21440 * u24 ≤ 1 / 10 := by decide +kernel
  obtain ⟨z, z1, z2, z3⟩ := rd_quo p1 tw_qv (B := 65) (by decide +kernel) (by grind) (by grind) (by decide +kernel) (by decide +kernel)
  have e1 : (2 : Rat) * (1 + 4 * 65) * u24 * (1 / 4) = 522 * u24 / 4 := by decide +kernel
  rw [e1] at z2 z3
  exact ⟨⟨z, z1, by constructor <;> grind⟩, by constructor <;> grind⟩
theorem src_q {S : Int} (h : S ≤ 4427218577690292387 ∧ -4427218577690292387 ≤ S) : Rg (4 * ((S : Rat) * k69)) (301 / 10000) := by
  have q1 := Rat.intCast_le_intCast.2 h.1
  have q2 := Rat.intCast_le_intCast.2 h.2
  have eT : ((4427218577690292387 : Int) : Rat) = 4427218577690292387 := rfl
  have eN : ((-4427218577690292387 : Int) : Rat) = -4427218577690292387 := rfl
  rw [eT] at q1
  rw [eN] at q2
  have hk : 0 ≤ 4 * k69 := by decide +kernel
  have m1 := Rat.mul_le_mul_of_nonneg_right q1 hk
  have m2 := Rat.mul_le_mul_of_nonneg_right q2 hk
  have e : 4427218577690292387 * (4 * k69) ≤ 301 / 10000 := by decide +kernel
  constructor <;> grind
theorem src_small (hL : Ring8 L) (ha : a < 17) (hb : b < 17) (hc : c < 17) : ∃ z, qv (srcAt (fiK (rW L) (frm a b c) 1040187392 3 3 27) 3 3 (srcTw 1040187392) 1 1 1) z ∧ Rg z (46 / 1000) := by
  have n : ∀ i j k, i < 3 → j < 3 → k < 3 → _ := fun i j k hi hj hk => node_f hL ha hb hc hi hj hk
  have x1 := n 2 1 1 (by decide) (by decide) (by decide)
  have x0 := n 0 1 1 (by decide) (by decide) (by decide)
  have y1 := n 1 2 1 (by decide) (by decide) (by decide)
  have y0 := n 1 0 1 (by decide) (by decide) (by decide)
  have z1 := n 1 1 2 (by decide) (by decide) (by decide)
  have z0 := n 1 1 0 (by decide) (by decide) (by decide)
  have hs := src_q (mesh_all ha hb hc).src
  obtain ⟨q1, b1⟩ := quo4 x1.1.x x0.1.x x1.2.x x0.2.x
  obtain ⟨q2, b2⟩ := quo4 y1.1.y y0.1.y y1.2.y y0.2.y
  obtain ⟨q3, b3⟩ := quo4 z1.1.z z0.1.z z1.2.z z0.2.z
  clear n x1 x0 y1 y0 z1 z0
  unfold Src at hs
  unfold srcAt
  generalize fiK (rW L) (frm a b c) 1040187392 3 3 27 = vs at *
  simp only [Nat.reduceMul, Nat.reduceAdd, Nat.reduceSub, Nat.mul_one, Nat.mul_zero, Nat.add_zero] at hs q1 q2 q3 b1 b2 b3 ⊢
  have s1 := nr_add (.of qv_zero) q1 (by rw [Rat.zero_add]; exact b1) (G := 86500 * u24) (by decide +kernel) (by decide +kernel)
  have c1 : Rg (0 + 4 * ((FX (4 * a + 4) (4 * b + 2) (4 * c + 2) : Rat) * k69 - (FX (4 * a) (4 * b + 2) (4 * c + 2) : Rat) * k69)) 64 := by rw [Rat.zero_add]; exact b1
  have c2 := (c1.add b2).mono (B := 128) (by decide +kernel)
  have s2 := nr_add s1 q2 c2 (G := 173200 * u24) (by decide +kernel) (by decide +kernel)
  have c3 := (c2.add b3).mono (B := 192) (by decide +kernel)
  have s3 := nr_add s2 q3 c3 (G := 260000 * u24) (by decide +kernel) (by decide +kernel)
  obtain ⟨z, z1, z2⟩ := s3
  refine ⟨z, z1, ?_⟩
  have e : 260000 * u24 ≤ 156 / 10000 := by decide +kernel
  simp only [Rat.intCast_add, Rat.intCast_sub] at hs
  obtain ⟨g1, g2⟩ := z2
  obtain ⟨h1, h2⟩ := hs
  clear c1 c2 c3 s1 s2 b1 b2 b3 q1 q2 q3
  constructor <;> grind
end
end Go.Proofs.Ytfeciemlhiclbaa


namespace Go.Proofs.Ytfeciemlhiclbaa
open Go.RowKit

set_option maxRecDepth 100000
def imK : Nat → Nat
  | 0 => 4620693217682128896
  | i + 1 => fop .sub .f64 (imK i) 4607182418800017408
def imP (u : Nat) : Nat → Nat
  | 0 => 4607182418800017408
  | i + 1 => fop .sub .f64 4607182418800017408 (fop .quo .f64 (fop .mul .f64 u (imP u i)) (fop .mul .f64 (fop .mul .f64 4611686018427387904 (imK i)) (fop .add .f64 (fop .mul .f64 4611686018427387904 (imK i)) 4607182418800017408)))
def im0 (y : Nat) (i : Int) : Nat := fop .sub .f64 y (FloatKind.f64.nearest i)
def im1 (y : Nat) (i : Int) : Nat := if fcmp .geq .f64 (im0 y i) 4602678819172646912 = true then fop .sub .f64 (im0 y i) 4602678819172646912 else im0 y i
def im2 (y : Nat) (i : Int) : Nat := if fcmp .gtr .f64 (im1 y i) 4598175219545276416 = true then fop .sub .f64 4602678819172646912 (im1 y i) else im1 y i
def imZ (y : Nat) (i : Int) : Nat := fop .mul .f64 (im2 y i) 4618760256179416344
def imR (y : Nat) (i : Int) : Nat := if fcmp .geq .f64 (im0 y i) 4602678819172646912 = true then fneg .f64 (fop .mul .f64 (imZ y i) (imP (fop .mul .f64 (imZ y i) (imZ y i)) 8)) else fop .mul .f64 (imZ y i) (imP (fop .mul .f64 (imZ y i) (imZ y i)) 8)
def imW (x : Nat) (i : Int) : Nat := fconv .f64 .f32 (imR (fconv .f32 .f64 x) i)
def imOk (x : Nat) (i : Int) : Bool := fin x && !(fcmp .geq .f64 (fabs .f64 (fconv .f32 .f64 x)) 4841369599423283200) && (floatToIntVal .f64 (fconv .f32 .f64 x) .i64 == some i) && !(fcmp .lss .f64 (im0 (fconv .f32 .f64 x) i) 0) && !(fover .f64 .f32 (imR (fconv .f32 .f64 x) i))
theorem imK_geq : ∀ i : Fin 9, fcmp .geq .f64 (imK i) 4607182418800017408 = decide (i.val < 8) := by decide +kernel
def i8Q (k : Nat) : Nat := fop .quo .f32 (FloatKind.f32.nearest (k : Int)) (FloatKind.f32.nearest 8)
def i8I (k : Nat) : Int := if 6 ≤ k then 1 else 0
theorem i8_ok : ∀ k : Fin 8, (imOk (i8Q k) 0 && imOk (fop .add .f32 (i8Q k) 1048576000) (i8I k)) = true := by decide +kernel
def i8P (k : Nat) : V3 := (fop .mul .f32 1065353216 (imW (fop .add .f32 (i8Q k) 1048576000) (i8I k)), fop .mul .f32 1065353216 (imW (i8Q k) 0), 0)
def i8L (n : Nat) : List V3 := (List.range n).map i8P
theorem i8_tab : ∀ k : Fin 8, (vk (i8P k).1 ((axL.getD k 0 : Nat) - 67108864 : Int) && vk (i8P k).2.1 ((ayL.getD k 0 : Nat) - 67108864 : Int)) = true := by decide +kernel
theorem ax_in : ∀ k : Fin 8, (decide (33554432 ≤ axL.getD k 0) && decide (axL.getD k 0 ≤ 100663296) && decide (33554432 ≤ ayL.getD k 0) && decide (ayL.getD k 0 ≤ 100663296)) = true := by decide
theorem i8_ring : Ring8 (i8L 8) := by
  refine ⟨by simp [i8L], fun k hk => ?_⟩
  have h1 := i8_tab ⟨k, hk⟩
  have h2 := ax_in ⟨k, hk⟩
  simp only [Bool.and_eq_true, decide_eq_true_eq] at h1 h2
  have e : (i8L 8).getD k z3 = i8P k := by simp [i8L, List.getD, hk]
  rw [e]
  exact ⟨vk_qv h1.1, vk_qv h1.2, rfl, h2.1.1.1, h2.1.1.2, h2.1.2, h2.2⟩
attribute [local irreducible] D9 D7 UU WW W9 segF fop FX FY FZ fieldI
theorem Lat.fin3 {P : V3} {p q s : Nat} (h : Lat P p q s) : Go.Proofs.Ytfeciemlhiclbaa.fin3 P = true := by
  unfold Go.Proofs.Ytfeciemlhiclbaa.fin3
  rw [qv_fin h.x, qv_fin h.y, qv_fin h.z]; rfl
theorem nr3_fin {w : V3} {a b c E : Rat} (h : nr3 w a b c E) : Go.Proofs.Ytfeciemlhiclbaa.fin3 w = true := by
  obtain ⟨_, x, _⟩ := h.x
  obtain ⟨_, y, _⟩ := h.y
  obtain ⟨_, z, _⟩ := h.z
  unfold Go.Proofs.Ytfeciemlhiclbaa.fin3
  rw [qv_fin x, qv_fin y, qv_fin z]; rfl
theorem okK_all {L : List V3} {a b c : Nat} (hL : Ring8 L) (ha : a < 17) (hb : b < 17) (hc : c < 17) : ∀ k, k ≤ 27 → okK (rW L) (frm a b c) 1040187392 3 3 k = true
  | 0, _ => rfl
  | k + 1, hk => by
    have hl := lat_node (i := k % 3) (j := k / 3 % 3) (k := k / 3 / 3) ha hb hc (by omega) (by omega) (by omega)
    have hf := nr3_fin (ring8_field hL hl).1
    have hp := hl.fin3
    show (okK (rW L) (frm a b c) 1040187392 3 3 k && okN (rW L) (frm a b c) 1040187392 3 3 k) = true
    rw [okK_all hL ha hb hc k (by omega), Bool.true_and]
    unfold okN plc
    rw [hp, Bool.true_and]
    exact hf
end Go.Proofs.Ytfeciemlhiclbaa


namespace Go.Proofs.Ytfeciemlhiclbaa
open Go.RowKit

set_option maxRecDepth 20000
attribute [local irreducible] D9 D7 UU WW W9
section
variable {x y : Nat} {p q K : Rat} {k : Nat}
theorem dv_lss (hx : dv x p) (hy : dv y q) : fcmp .lss .f64 x y = decide (p < q) := by
  obtain ⟨X, hX, eX⟩ := hx
  obtain ⟨Y, hY, eY⟩ := hy
  show (FloatKind.f64.format.order x y == some .lt) = _
  rw [order_number hX.1 hY.1, hX.2, hY.2]
  have key : X < Y ↔ p < q := by
    rw [← Rat.intCast_lt_intCast, eX, eY]
    exact ⟨fun h => Rat.lt_of_mul_lt_mul_right h (Rat.le_of_lt W9_pos), fun h => Rat.mul_lt_mul_of_pos_right h W9_pos⟩
  rcases Int.lt_trichotomy X Y with h | h | h
  · rw [Int.compare_eq_lt.2 h, decide_eq_true (key.1 h)]; rfl
  · rw [compare_eq.2 h, decide_eq_false (fun g => by have := key.2 g; omega)]; rfl
  · rw [Int.compare_eq_gt.2 h, decide_eq_false (fun g => by have := key.2 g; omega)]; rfl
end
end Go.Proofs.Ytfeciemlhiclbaa


namespace Go.Proofs.Ytfeciemlhiclbaa
open Go.RowKit

set_option maxRecDepth 20000
theorem dv_c05 : dv 4587366580439587226 (7205759403792794 / 144115188075855872) := ⟨7205759403792794 * 2 ^ 1017, ⟨by decide +kernel, by decide +kernel⟩, by decide +kernel⟩
theorem dv_z9 : dv 0 0 := ⟨0, ⟨by decide, by
  have h : rng FloatKind.f64.format 0 = 0 := by decide
  have h2 : sgn FloatKind.f64.format 0 = false := by decide
  unfold sval
  rw [h, h2, (units_zero FloatKind.f64.format).2 rfl]; rfl⟩, by rw [Rat.zero_mul]; rfl⟩
attribute [local irreducible] D9 D7 UU WW W9 segF fop FX FY FZ fieldI
theorem apd_z9 : apd 0 0 := by
  obtain ⟨U, c1, c2⟩ := dv_z9
  rw [Rat.zero_mul] at c2
  have hU : U = 0 := Rat.intCast_inj.1 c2
  subst hU
  exact c1
section
variable {x : Nat} {v : Rat}
theorem up_lss (h : qv x v) (hv : v ≤ 4 / 100) : fcmp .lss .f64 (up x) 4587366580439587226 = true := by
  rw [dv_lss (qv_up h) dv_c05]
  have : (4 / 100 : Rat) < 7205759403792794 / 144115188075855872 := by decide +kernel
  exact decide_eq_true (by grind)
theorem dv_neg0 (h : qv x v) : dv (fop .sub .f64 0 (up x)) (-v) := by
  obtain ⟨V, a1, a2⟩ := qv_up h
  have hs := apd_sum0 true (V := 0) (U := V) (x := 0) (y := up x) apd_z9 a1 (r := rng FloatKind.f64.format (up x)) a1.1 (by simp only [if_true]; rw [a1.units]; omega)
  simp only [if_true] at hs
  have e0 : fop .sub .f64 0 (up x) = (((FloatKind.f64.format.read 0).sum (FloatKind.f64.format.read (up x)).opposite).map FloatKind.f64.format.write).getD (qn .f64) := by unfold fop; rfl
  rw [← e0] at hs
  exact ⟨0 + -V, hs, by rw [Int.zero_add, Rat.intCast_neg, a2]; grind⟩
theorem dv_nan {y : Nat} {p : Rat} (h : dv y p) : fnan .f64 y = false := by
  obtain ⟨X, hX, _⟩ := h
  obtain ⟨m, e, a1, _⟩ := read_number FloatKind.f64.format hX.1
  show (FloatKind.f64.format.read y).isNaN = false
  rw [a1]; rfl
theorem gap_05 (h : qv x v) (hv : Rg v (46 / 1000)) : fnan .f64 (fop .sub .f64 (up x) 0) = false ∧ fnan .f64 (fop .sub .f64 0 (up x)) = false ∧ fcmp .lss .f64 (gap64 (up x) 0) 4587366580439587226 = true := by
  have d1 := dv_sub0 (qv_up h) apd_z9
  have d2 := dv_neg0 h
  have n1 := dv_nan d1
  have n2 := dv_nan d2
  obtain ⟨g1, g2⟩ := hv
  have : (46 / 1000 : Rat) < 7205759403792794 / 144115188075855872 := by decide +kernel
  refine ⟨n1, n2, ?_⟩
  unfold gap64
  rcases fmx_or .f64 n1 n2 with e | e
  · rw [e, dv_lss d1 dv_c05]; exact decide_eq_true (by grind)
  · rw [e, dv_lss d2 dv_c05]; exact decide_eq_true (by grind)
theorem geq_0 (h : qv x v) (h0 : 0 ≤ v) : fcmp .geq .f32 x 0 = true := by
  obtain ⟨X, hX, eX⟩ := h
  obtain ⟨Y, hY, eY⟩ := qv_zero
  have hX0 : Y ≤ X := by
    rw [← Rat.intCast_le_intCast, eX, eY]
    exact Rat.mul_le_mul_of_nonneg_right h0 (Rat.le_of_lt WW_pos)
  show (FloatKind.f32.format.order x 0 == some .gt || FloatKind.f32.format.order x 0 == some .eq) = true
  rw [qv_cmp hX hY]
  rcases Int.lt_trichotomy X Y with h | h | h
  · omega
  · rw [compare_eq.2 h]; rfl
  · rw [Int.compare_eq_gt.2 h]; rfl
end
section
variable {L : List V3} {a b c : Nat}
theorem fill_ok (hL : Ring8 L) (hw : wiresOk (rW L) = true) (ha : a < 17) (hb : b < 17) (hc : c < 17) : fiOk (rW L) (frm a b c) 1040187392 3 3 3 = true := by
  have hf : fin3 (frm a b c) = true := by
    have := (lat_node (i := 0) (j := 0) (k := 0) ha hb hc (by decide) (by decide) (by decide))
    unfold fin3 frm
    have h1 : ∀ k : Fin 17, (fin (qw k) && fin (lz9 k)) = true := by decide +kernel
    have ka := h1 ⟨a, ha⟩
    have kb := h1 ⟨b, hb⟩
    have kc := h1 ⟨c, hc⟩
    rw [Bool.and_eq_true] at ka kb kc
    show (fin (qw a) && fin (qw b) && fin (lz9 c)) = true
    rw [ka.1, kb.1, kc.2]; rfl
  exact fiOk_yes hw hf (by decide +kernel) (by decide) (okK_all hL ha hb hc 27 (Nat.le_refl _))
end
end Go.Proofs.Ytfeciemlhiclbaa


namespace Go.Proofs.Ytfeciemlhiclbaa
open Go.RowKit

set_option maxRecDepth 20000
theorem imK_lt {i : Nat} (hi : i ≤ 8) (h : fcmp .geq .f64 (imK i) 4607182418800017408 = true) : i < 8 := by
  have := imK_geq ⟨i, by omega⟩
  rw [h] at this
  exact of_decide_eq_true this.symm
theorem imK_ge {i : Nat} (hi : i ≤ 8) (h : fcmp .geq .f64 (imK i) 4607182418800017408 = false) : i = 8 := by
  have := imK_geq ⟨i, by omega⟩
  rw [h] at this
  have h8 : ¬ i < 8 := of_decide_eq_false this.symm
  omega
theorem im_is {x : Nat} {i : Int} (h : imOk x i = true) : fin x = true ∧ fcmp .geq .f64 (fabs .f64 (fconv .f32 .f64 x)) 4841369599423283200 = false ∧ floatToIntVal .f64 (fconv .f32 .f64 x) .i64 = some i ∧ fcmp .lss .f64 (fop .sub .f64 (fconv .f32 .f64 x) (FloatKind.f64.nearest i)) 0 = false ∧ fover .f64 .f32 (imR (fconv .f32 .f64 x) i) = false := by
  unfold imOk at h
  simp only [Bool.and_eq_true, Bool.not_eq_true', beq_iff_eq] at h
  exact ⟨h.1.1.1.1, h.1.1.1.2, h.1.1.2, h.1.2, h.2⟩
section
variable {y : Nat} {i : Int}
theorem im_r11 (h1 : fcmp .geq .f64 (fop .sub .f64 y (FloatKind.f64.nearest i)) 4602678819172646912 = true) : im1 y i = fop .sub .f64 (fop .sub .f64 y (FloatKind.f64.nearest i)) 4602678819172646912 := by
  unfold im1 im0; rw [if_pos h1]
theorem im_r10 (h1 : fcmp .geq .f64 (fop .sub .f64 y (FloatKind.f64.nearest i)) 4602678819172646912 = false) : im1 y i = fop .sub .f64 y (FloatKind.f64.nearest i) := by
  unfold im1 im0; rw [if_neg (by rw [h1]; decide)]
theorem im_r2 {z : Nat} (h : im1 y i = z) {b : Bool} (h2 : fcmp .gtr .f64 z 4598175219545276416 = b) : im2 y i = if b = true then fop .sub .f64 4602678819172646912 z else z := by
  unfold im2; rw [h, h2]
theorem im_r3 {b : Bool} (h1 : fcmp .geq .f64 (fop .sub .f64 y (FloatKind.f64.nearest i)) 4602678819172646912 = b) {z : Nat} (h : im2 y i = z) : imR y i = if b = true then fneg .f64 (fop .mul .f64 (fop .mul .f64 z 4618760256179416344) (imP (fop .mul .f64 (fop .mul .f64 z 4618760256179416344) (fop .mul .f64 z 4618760256179416344)) 8)) else fop .mul .f64 (fop .mul .f64 z 4618760256179416344) (imP (fop .mul .f64 (fop .mul .f64 z 4618760256179416344) (fop .mul .f64 z 4618760256179416344)) 8) := by
  unfold imR imZ
  rw [h]
  unfold im0
  rw [h1]
end
theorem i8_ok1 {k : Nat} (hk : k < 8) : imOk (fop .add .f32 (fop .quo .f32 (FloatKind.f32.nearest (k : Int)) (FloatKind.f32.nearest 8)) 1048576000) (i8I k) = true := by
  have := i8_ok ⟨k, hk⟩
  rw [Bool.and_eq_true] at this
  exact this.2
theorem i8_ok2 {k : Nat} (hk : k < 8) : imOk (fop .quo .f32 (FloatKind.f32.nearest (k : Int)) (FloatKind.f32.nearest 8)) 0 = true := by
  have := i8_ok ⟨k, hk⟩
  rw [Bool.and_eq_true] at this
  exact this.1
theorem i8L_length {n : Nat} : (i8L n).length = n := by simp [i8L]
theorem i8L_vl {n : Nat} : vl (i8L n) ++ [.float .f32 (i8P n).1, .float .f32 (i8P n).2.1, .float .f32 (i8P n).2.2] = vl (i8L (n + 1)) := by rw [vl_snoc]; simp [i8L, List.range_succ]
theorem i8_wire : wireOk (i8L 8, true, 1065353216) = true := by
  have h := i8_ring
  have hv : (i8L 8).all fin3 = true := vall_getD.2 fun k hk => by
    rw [i8L_length] at hk
    have v := h.v k hk
    unfold fin3
    rw [qv_fin v.x, qv_fin v.y, v.z]
    decide +kernel
  unfold wireOk
  rw [hv]
  have e : (i8L 8).length = 8 := i8L_length
  simp only [e]
  decide +kernel
theorem i8_wires : wiresOk (rW (i8L 8)) = true := by
  unfold wiresOk rW
  simp only [List.all_cons, List.all_nil, i8_wire, Bool.and_true]
  decide
end Go.Proofs.Ytfeciemlhiclbaa

