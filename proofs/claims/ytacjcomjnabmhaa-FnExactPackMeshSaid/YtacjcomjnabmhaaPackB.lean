/- Packing: the scale; the bytes. -/
import Derived.Test.YtacjcomjnabmhaaPackA
import Derived.Test.YtacjcomjnabmhaaBytes
import Derived.Test.YtacjcomjnabmhaaMesh
namespace Go.Proofs.Ytacjcomjnabmhaa
open Go.RowKit

theorem fin_rng {x : Nat} (h : fin x = true) : rng Ieee.single x < Ieee.single.infRung := by
  rcases Nat.lt_or_ge (rng Ieee.single x) Ieee.single.infRung with hl | hl
  · exact hl
  · exfalso
    have hq : fop .sub .f32 x x = qn .f32 := by
      cases hn : fnan .f32 x
      · have hi : Ieee.single.read x = .infinity (sgn Ieee.single x) := read_inf .f32 (Nat.le_antisymm (rng_le hn) hl)
        unfold fop floatBits Ieee.Format.sub
        simp only [show FloatKind.f32.format = Ieee.single from rfl, hi]
        generalize sgn Ieee.single x = s
        cases s <;> decide
      · simp [fop, floatBits_nan_left hn]
    unfold fin at h
    rw [hq] at h
    revert h
    decide
theorem fin_nan {x : Nat} (h : fin x = true) : fnan .f32 x = false := by
  rw [fnan_rng]
  have := fin_rng h
  exact decide_eq_false (by show ¬ Ieee.single.infRung < rng Ieee.single x; omega)
theorem xor_top {n r : Nat} (h : r < 2 ^ n) : (2 ^ n + r) ^^^ 2 ^ n = r := by
  apply Nat.eq_of_testBit_eq
  intro j
  rw [Nat.testBit_xor, Nat.testBit_two_pow]
  rcases Nat.lt_trichotomy j n with hj | hj | hj
  · rw [Nat.testBit_two_pow_add_gt hj, decide_eq_false (by omega), Bool.xor_false]
  · subst hj
    rw [Nat.testBit_two_pow_add_eq, decide_eq_true rfl, Nat.testBit_lt_two_pow h]; rfl
  · have h2 : 2 ^ n + r < 2 ^ j := by
      have : 2 ^ (n + 1) ≤ 2 ^ j := Nat.pow_le_pow_right (by decide) hj
      rw [Nat.pow_succ] at this
      omega
    rw [Nat.testBit_lt_two_pow h2, decide_eq_false (by omega), Nat.testBit_lt_two_pow (by omega)]; rfl

/-- What is not below zero, a number. -/
def pos (s : Nat) : Prop := rng Ieee.single s < Ieee.single.infRung ∧ sgn Ieee.single s = false
theorem pos_0 : pos 0 := by constructor <;> decide
theorem fabs_fin {x : Nat} (h : fin x = true) : fabs .f32 x = x % Ieee.single.signWeight := by unfold fabs; rw [fin_nan h]; rfl
theorem pos_fabs {x : Nat} (h : fin x = true) : pos (fabs .f32 x) := by
  rw [fabs_fin h]
  exact ⟨by rw [rng_abs]; exact fin_rng h, sgn_abs _ _⟩
theorem rng_fabs {x : Nat} (h : fin x = true) : rng Ieee.single (fabs .f32 x) = rng Ieee.single x := by rw [fabs_fin h, rng_abs]
/-- The greater of what it was and the number without its sign. -/
def scN (s x : Nat) : Nat := if fcmp .gtr .f32 (fabs .f32 x) s then fabs .f32 x else s
theorem pos_scN {s x : Nat} (hs : pos s) (h : fin x = true) : pos (scN s x) := by unfold scN; split; exact pos_fabs h; exact hs
theorem sval_pos {s : Nat} (h : pos s) : sval Ieee.single s = (units Ieee.single (rng Ieee.single s) : Int) := by unfold sval; rw [h.2]; rfl
theorem gtr_pos {a b : Nat} (ha : rng Ieee.single a < Ieee.single.infRung) (hb : rng Ieee.single b < Ieee.single.infRung) : fcmp .gtr .f32 a b = decide (sval Ieee.single b < sval Ieee.single a) := by
  unfold fcmp
  simp only
  rw [order_number (k := .f32) ha hb, Option.some_beq_some]
  show (compare (sval Ieee.single a) (sval Ieee.single b) == .gt) = _
  by_cases h : sval Ieee.single b < sval Ieee.single a
  · rw [decide_eq_true h, beq_iff_eq]; exact Int.compare_eq_gt.2 h
  · rw [decide_eq_false h, beq_eq_false_iff_ne]; exact fun g => h (Int.compare_eq_gt.1 g)
theorem lss_pos {a b : Nat} (ha : rng Ieee.single a < Ieee.single.infRung) (hb : rng Ieee.single b < Ieee.single.infRung) : fcmp .lss .f32 a b = decide (sval Ieee.single a < sval Ieee.single b) := by
  unfold fcmp
  simp only
  rw [order_number (k := .f32) ha hb, Option.some_beq_some]
  show (compare (sval Ieee.single a) (sval Ieee.single b) == .lt) = _
  by_cases h : sval Ieee.single a < sval Ieee.single b
  · rw [decide_eq_true h, beq_iff_eq]; exact Int.compare_eq_lt.2 h
  · rw [decide_eq_false h, beq_eq_false_iff_ne]; exact fun g => h (Int.compare_eq_lt.1 g)
theorem le_scN {s x : Nat} (hs : pos s) (h : fin x = true) : units Ieee.single (rng Ieee.single s) ≤ units Ieee.single (rng Ieee.single (scN s x)) ∧ units Ieee.single (rng Ieee.single x) ≤ units Ieee.single (rng Ieee.single (scN s x)) := by
  have hp := pos_fabs h
  have hg := gtr_pos hp.1 hs.1
  rw [sval_pos hp, sval_pos hs, rng_fabs h] at hg
  unfold scN
  by_cases hlt : (units Ieee.single (rng Ieee.single s) : Int) < units Ieee.single (rng Ieee.single x)
  · rw [hg, decide_eq_true hlt, if_pos rfl, rng_fabs h]; omega
  · rw [hg, decide_eq_false hlt, if_neg (by decide)]; omega
theorem zero0 : sval Ieee.single 0 = 0 ∧ rng Ieee.single 0 < Ieee.single.infRung := by decide
/-- .. as the reference makes it -/
theorem scS_neg {x : Nat} (hx : Can .f32 x) (h : fin x = true) (h1 : fcmp .lss .f32 x 0 = true) : fneg .f32 x = fabs .f32 x := by
  rw [lss_pos (fin_rng h) zero0.2, zero0.1, decide_eq_true_eq] at h1
  have hs : sgn Ieee.single x = true := by
    cases hs : sgn Ieee.single x
    · exfalso; unfold sval at h1; rw [hs] at h1; simp only [Bool.false_eq_true, if_false] at h1; omega
    · rfl
  have hsw : Ieee.single.signWeight = 2147483648 := by decide
  have hw : x < 2 ^ 32 := hx.lt
  have hlt : 2147483648 ≤ x := by
    unfold sgn at hs
    rw [hsw, beq_iff_eq] at hs
    omega
  have e : Op.negFloat .f32 x = x % 2147483648 := by
    show x ^^^ 2 ^ 31 = _
    have := xor_top (n := 31) (r := x - 2147483648) (by omega)
    rw [show (2 : Nat) ^ 31 = 2147483648 from rfl] at this ⊢
    rw [show 2147483648 + (x - 2147483648) = x by omega] at this
    rw [this]; omega
  unfold fneg
  rw [e, fabs_fin h, hsw]
  refine cb_num ?_
  have := fnan_abs .f32 x
  rw [show FloatKind.f32.format.signWeight = 2147483648 from hsw] at this
  rw [this, fin_nan h]
theorem scS_pos {s x : Nat} (hx : Can .f32 x) (hs : pos s) (h : fin x = true) (h1 : fcmp .lss .f32 x 0 = false) : fcmp .gtr .f32 x s = fcmp .gtr .f32 (fabs .f32 x) s ∧ (fcmp .gtr .f32 x s = true → x = fabs .f32 x) := by
  rw [lss_pos (fin_rng h) zero0.2, zero0.1, decide_eq_false_iff_not] at h1
  have hp := pos_fabs h
  rw [gtr_pos (fin_rng h) hs.1, gtr_pos hp.1 hs.1, sval_pos hp, sval_pos hs, rng_fabs h]
  cases hsg : sgn Ieee.single x
  · have hv : sval Ieee.single x = (units Ieee.single (rng Ieee.single x) : Int) := sval_pos ⟨fin_rng h, hsg⟩
    rw [hv]
    refine ⟨rfl, fun _ => ?_⟩
    rw [fabs_fin h]
    have hw := word_of .f32 hx.lt
    change Ieee.single.word (sgn Ieee.single x) (rng Ieee.single x) = x at hw
    rw [hsg] at hw
    exact hw.symm
  · have hv : sval Ieee.single x = -(units Ieee.single (rng Ieee.single x) : Int) := by unfold sval; rw [hsg]; rfl
    rw [hv] at h1 ⊢
    have h0 : units Ieee.single (rng Ieee.single x) = 0 := by omega
    rw [h0]
    have : ¬ ((units Ieee.single (rng Ieee.single s) : Int) < -((0 : Nat) : Int)) := by omega
    have h2 : ¬ ((units Ieee.single (rng Ieee.single s) : Int) < ((0 : Nat) : Int)) := by omega
    rw [decide_eq_false this, decide_eq_false h2]
    exact ⟨rfl, fun h => by cases h⟩
section
variable {P : Program} {E : Env} {o : Oper}
/-- the absolute value, narrowed -/
theorem yr_absdn {src dst : TypeId} {x : Operand} {b : Nat} (ho : o.op = .convert src dst x) (hs : P.underlying src = some (.float .f64)) (hd : P.underlying dst = some (.float .f32)) (hx : E.opd x = some (.float .f64 (fabs .f64 (fconv .f32 .f64 b)))) : YR P E o (.float .f32 (fabs .f32 b)) := by
  have h := yr_fconv (P := P) ho hs hd (by decide) hx (abs_down b).2
  rwa [(abs_down b).1] at h
/-- max of two numbers that are not below zero -/
theorem yr_maxS {x y : Operand} {t s : TypeId} {a b : Nat} (ho : o.op = .call ⟨.builtin .max, #[x, y], #[t, s]⟩) (hx : E.opd x = some (.float .f32 a)) (hy : E.opd y = some (.float .f32 (fabs .f32 b))) (ha : pos a) (hb : fin b = true) : YR P E o (.float .f32 (scN a b)) := yr_of fun ρ w hE => by
  obtain ⟨a', g1, g2⟩ := cn_float (hE.get (x := x) (by simp [ho, Op.operands, Call.operands]) hx)
  obtain ⟨b', k1, k2⟩ := cn_float (hE.get (x := y) (by simp [ho, Op.operands, Call.operands]) hy)
  have hp := pos_fabs hb
  have na : ∀ z, rng Ieee.single z < Ieee.single.infRung → fnan .f32 z = false := fun z hz => by
    rw [fnan_rng]; exact decide_eq_false (by show ¬ Ieee.single.infRung < rng Ieee.single z; omega)
  have ea : a' = a := by
    have : fnan .f32 a' = false := by rw [← fnan_cb, g2]; exact na _ ha.1
    rw [← g2, cb_num this]
  have eb : b' = fabs .f32 b := by
    have : fnan .f32 b' = false := by rw [← fnan_cb, k2]; exact na _ hp.1
    rw [← k2, cb_num this]
  subst ea
  subst eb
  have hg := gtr_pos hp.1 ha.1
  have hord : FloatKind.f32.format.order a' (fabs .f32 b) = some (compare (sval Ieee.single a') (sval Ieee.single (fabs .f32 b))) := order_number (k := .f32) ha.1 hp.1
  have hneg : (FloatKind.f32.decode a').neg = false := by
    obtain ⟨m, e, h1, _⟩ := read_number Ieee.single ha.1
    unfold FloatKind.decode
    rw [show FloatKind.f32.format.read a' = _ from h1]
    exact ha.2
  have hmax : (Builtin.max2 (.float .f32 a') (.float .f32 (fabs .f32 b))).run P w = .ok (.float .f32 (scN a' b)) w := by
    unfold Builtin.max2 scN
    rw [hg]
    simp only [hord]
    rcases Int.lt_trichotomy (sval Ieee.single a') (sval Ieee.single (fabs .f32 b)) with h | h | h
    · rw [Int.compare_eq_lt.2 h, decide_eq_true h]; rfl
    · rw [compare_eq.2 h, decide_eq_false (by omega)]
      simp [hneg]
    · rw [Int.compare_eq_gt.2 h, decide_eq_false (by omega)]; rfl
  refine ⟨.float .f32 (scN a' b), ?_, ?_⟩
  · simp [execOp, ho, g1, k1, resolve, invoke, builtin, Builtin.max_, hmax]
  · simp only [cn, cn1, cn0]
    rw [cb_num (na _ (pos_scN ha hb).1)]
end
end Go.Proofs.Ytacjcomjnabmhaa
