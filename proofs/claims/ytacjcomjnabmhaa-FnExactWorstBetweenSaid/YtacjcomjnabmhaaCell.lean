/- The cell of a mesh: floors, shares; numbers that are alike but for the sign of a zero. -/
import Derived.Test.YtacjcomjnabmhaaMesh
import Derived.Test.YtacjcomjnabmhaaFinA
namespace Go.Proofs.Ytacjcomjnabmhaa
open Go.RowKit

/-! ### alike but for the sign of a zero -/
def zd (d e : Ieee.Datum) : Prop := d = e ∨ ∃ s t p, d = .number s 0 p ∧ e = .number t 0 p
def zo (x y : Option Ieee.Datum) : Prop := x = y ∨ ∃ s t p, x = some (.number s 0 p) ∧ y = some (.number t 0 p)
theorem signed0 (s : Bool) (k : Nat) : Ieee.signed s 0 k = 0 := by cases s <;> simp [Ieee.signed]
theorem zd_sum {d d' e e' : Ieee.Datum} (h : zd d d') (k : zd e e') : zo (d.sum e) (d'.sum e') := by
  have left : ∀ (s t : Bool) (p : Int) (x : Ieee.Datum), zo ((Ieee.Datum.number s 0 p).sum x) ((Ieee.Datum.number t 0 p).sum x) := by
    intro s t p x
    cases x with
    | nan => exact .inl rfl
    | infinity => exact .inl rfl
    | number u n j =>
      simp only [Ieee.Datum.sum, signed0, Int.zero_add]
      by_cases h0 : Ieee.signed u n (j - min p j).toNat = 0
      · rw [h0]; exact .inr ⟨_, _, _, rfl, rfl⟩
      · rw [if_neg h0, if_neg h0]; exact .inl rfl
  have right : ∀ (s t : Bool) (p : Int) (x : Ieee.Datum), zo (x.sum (Ieee.Datum.number s 0 p)) (x.sum (Ieee.Datum.number t 0 p)) := by
    intro s t p x
    cases x with
    | nan => exact .inl rfl
    | infinity => exact .inl rfl
    | number u n j =>
      simp only [Ieee.Datum.sum, signed0, Int.add_zero]
      by_cases h0 : Ieee.signed u n (j - min j p).toNat = 0
      · rw [h0]; exact .inr ⟨_, _, _, rfl, rfl⟩
      · rw [if_neg h0, if_neg h0]; exact .inl rfl
  rcases h with rfl | ⟨s, t, p, rfl, rfl⟩
  · rcases k with rfl | ⟨s, t, p, rfl, rfl⟩
    · exact .inl rfl
    · exact right s t p d
  · rcases k with rfl | ⟨s', t', p', rfl, rfl⟩
    · exact left s t p e
    · simp only [Ieee.Datum.sum, signed0, Int.zero_add, if_true, Int.natAbs_zero]
      exact .inr ⟨_, _, _, rfl, rfl⟩
theorem zd_product {d d' e e' : Ieee.Datum} (h : zd d d') (k : zd e e') : zo (d.product e) (d'.product e') := by
  have left : ∀ (s t : Bool) (p : Int) (x : Ieee.Datum), zo ((Ieee.Datum.number s 0 p).product x) ((Ieee.Datum.number t 0 p).product x) := by
    intro s t p x
    cases x with
    | nan => exact .inl rfl
    | infinity => exact .inl rfl
    | number u n j => simp only [Ieee.Datum.product, Nat.zero_mul]; exact .inr ⟨_, _, _, rfl, rfl⟩
  have right : ∀ (s t : Bool) (p : Int) (x : Ieee.Datum), zo (x.product (Ieee.Datum.number s 0 p)) (x.product (Ieee.Datum.number t 0 p)) := by
    intro s t p x
    cases x with
    | nan => exact .inl rfl
    | infinity => exact .inl rfl
    | number u n j => simp only [Ieee.Datum.product, Nat.mul_zero]; exact .inr ⟨_, _, _, rfl, rfl⟩
  rcases h with rfl | ⟨s, t, p, rfl, rfl⟩
  · rcases k with rfl | ⟨s, t, p, rfl, rfl⟩
    · exact .inl rfl
    · exact right s t p d
  · rcases k with rfl | ⟨s', t', p', rfl, rfl⟩
    · exact left s t p e
    · simp only [Ieee.Datum.product, Nat.zero_mul]; exact .inr ⟨_, _, _, rfl, rfl⟩
theorem zd_opp {d d' : Ieee.Datum} (h : zd d d') : zd d.opposite d'.opposite := by
  rcases h with rfl | ⟨s, t, p, rfl, rfl⟩
  · exact .inl rfl
  · exact .inr ⟨_, _, _, rfl, rfl⟩
def zw0 (a : Nat) : Prop := a = 0 ∨ a = 2147483648
def zq (a b : Nat) : Prop := a = b ∨ (zw0 a ∧ zw0 b)
theorem zq.refl (a : Nat) : zq a a := .inl rfl
theorem zw0_read {a : Nat} (h : zw0 a) : ∃ s, Ieee.single.read a = .number s 0 (-149) := by
  rcases h with rfl | rfl
  · exact ⟨false, by decide⟩
  · exact ⟨true, by decide⟩
theorem zq.zd {a b : Nat} (h : zq a b) : zd (Ieee.single.read a) (Ieee.single.read b) := by
  rcases h with rfl | ⟨h1, h2⟩
  · exact .inl rfl
  · obtain ⟨s, e1⟩ := zw0_read h1
    obtain ⟨t, e2⟩ := zw0_read h2
    rw [e1, e2]; exact .inr ⟨_, _, _, rfl, rfl⟩
theorem zq_write {x y : Option Ieee.Datum} (h : zo x y) : zq ((x.map Ieee.single.write).getD (qn .f32)) ((y.map Ieee.single.write).getD (qn .f32)) := by
  rcases h with rfl | ⟨s, t, p, rfl, rfl⟩
  · exact .inl rfl
  · have w : ∀ u : Bool, zw0 (Ieee.single.write (.number u 0 p)) := by
      intro u
      show zw0 (Ieee.single.nearest u 0 p)
      unfold Ieee.Format.nearest
      rw [if_pos rfl]
      cases u
      · exact .inl (by decide)
      · exact .inr (by decide)
    exact .inr ⟨w s, w t⟩
theorem zq_add {a a' b b' : Nat} (h : zq a a') (k : zq b b') : zq (fop .add .f32 a b) (fop .add .f32 a' b') := zq_write (zd_sum h.zd k.zd)
theorem zq_sub {a a' b b' : Nat} (h : zq a a') (k : zq b b') : zq (fop .sub .f32 a b) (fop .sub .f32 a' b') := zq_write (zd_sum h.zd (zd_opp k.zd))
theorem zq_mul {a a' b b' : Nat} (h : zq a a') (k : zq b b') : zq (fop .mul .f32 a b) (fop .mul .f32 a' b') := zq_write (zd_product h.zd k.zd)
theorem zq_sq {a a' : Nat} (h : zq a a') : fop .mul .f32 a a = fop .mul .f32 a' a' := by
  rcases h with rfl | ⟨rfl | rfl, rfl | rfl⟩ <;> first | rfl | decide
def zq3 (a b : V3) : Prop := zq a.1 b.1 ∧ zq a.2.1 b.2.1 ∧ zq a.2.2 b.2.2
theorem zq3.refl (a : V3) : zq3 a a := ⟨.refl _, .refl _, .refl _⟩
theorem zq3_between {a a' b b' : V3} {k k' : Nat} (h : zq3 a a') (h2 : zq3 b b') (h3 : zq k k') : zq3 (between3 a b k) (between3 a' b' k') :=
  ⟨zq_add h.1 (zq_mul (zq_sub h2.1 h.1) h3), zq_add h.2.1 (zq_mul (zq_sub h2.2.1 h.2.1) h3), zq_add h.2.2 (zq_mul (zq_sub h2.2.2 h.2.2) h3)⟩
theorem long_zq {a a' v : V3} (h : zq3 a a') : long3 (sub3 a v) = long3 (sub3 a' v) := by
  unfold long3 inner3 sub3
  simp only
  rw [zq_sq (zq_sub h.1 (.refl v.1)), zq_sq (zq_sub h.2.1 (.refl v.2.1)), zq_sq (zq_sub h.2.2 (.refl v.2.2))]

/-! ### floors -/
def ffl (x : Nat) : Nat := match FloatKind.f64.decode x with | .nan _ _ => qn .f64 | d => FloatKind.f64.encode (d.integral .down)
theorem ext_floor {P : Program} (vs : Array Value) (w : World) {x : Nat} (h : vs.toList.map cn = [.float .f64 x]) : ∃ v w', (Extern.MathFloor.toIntegral "math.archFloor" .down vs).run P w = .ok v w' ∧ cn v = .float .f64 (ffl x) ∧ Below w.heap.size w w' := by
  obtain ⟨b, rfl, rfl⟩ := one_arg h
  cases hn : fnan .f64 b
  · have hd : (FloatKind.f64.decode b).isNaN = false := hn
    have hr : ffl (cb .f64 b) = FloatKind.f64.encode ((FloatKind.f64.decode b).integral .down) := by
      unfold ffl
      rw [show FloatKind.f64.decode (cb .f64 b) = FloatKind.f64.decode b from read_cb hn]
      generalize FloatKind.f64.decode b = dd at hd ⊢
      cases dd <;> first | rfl | simp [Ieee.Datum.isNaN] at hd
    refine ⟨.float .f64 (FloatKind.f64.encode ((FloatKind.f64.decode b).integral .down)), w, ?_, ?_, Below.refl _ _⟩
    · rw [toIntegral_eq]
      generalize FloatKind.f64.decode b = dd at hd ⊢
      cases dd <;> first | rfl | simp [Ieee.Datum.isNaN] at hd
    · simp only [cn, cn1, cn0]
      rw [cb_of_num (k := .f64) (b := FloatKind.f64.encode ((FloatKind.f64.decode b).integral .down)) (write_num Ieee.double (integral_num hd .down)) (encode_lt _ _), hr]
  · obtain ⟨sg, fr, hr⟩ := read_nan hn
    have hd : FloatKind.f64.decode b = .nan sg fr := hr
    have hq : ffl (cb .f64 b) = qn .f64 := by
      obtain ⟨s', f', hr'⟩ := read_nan (k := .f64) (b := cb .f64 b) (by rw [fnan_cb, hn])
      unfold ffl FloatKind.decode
      rw [hr']
    rw [hq]
    rw [toIntegral_eq, hd]
    by_cases hk : FloatKind.f64.format.quiet fr = fr
    · exact ⟨.float .f64 b, w, by simp [hk], by simp [cn, cn1, cn0, cb_of_nan hn], Below.refl _ _⟩
    · simp only [hk, if_false]
      have henc : fnan .f64 (FloatKind.f64.encode (.nan sg (FloatKind.f64.format.quiet fr))) = true := ext_round.quiet_nan sg fr b hd
      refine ⟨_, { w with drawn := w.drawn + 1 }, by simp [choose, Sem.run, Question.forced]; rfl, ?_, below_drew _ _⟩
      simp only [cn, cn1, cn0]
      split
      · rw [cb_of_nan hn]
      · rw [cb_of_nan henc]

/-! ### the node before a place -/
def kOk (k : Nat) : Bool := match FloatKind.f64.decode (FloatKind.f64.nearest (k : Int)) with
  | .number s m e => !s && decide (-1074 ≤ e) && decide (e ≤ 0) && m == k * 2 ^ (-e).toNat
  | _ => false
theorem kOk_all : ∀ k : Fin 215, kOk k = true := by decide +kernel
theorem kOk_is {k : Nat} (hk : k ≤ 214) : ∃ m e, FloatKind.f64.decode (FloatKind.f64.nearest (k : Int)) = .number false m e ∧ -1074 ≤ e ∧ e ≤ 0 ∧ m = k * 2 ^ (-e).toNat := by
  have h := kOk_all ⟨k, by omega⟩
  unfold kOk at h
  simp only at h
  generalize FloatKind.f64.decode (FloatKind.f64.nearest (k : Int)) = d at h ⊢
  cases d with
  | nan => cases h
  | infinity => cases h
  | number s m e =>
    simp only [Bool.and_eq_true, Bool.not_eq_true', decide_eq_true_eq, beq_iff_eq] at h
    obtain ⟨⟨⟨rfl, h2⟩, h3⟩, h4⟩ := h
    exact ⟨m, e, rfl, h2, h3, h4⟩
theorem cutz_le (s : Bool) (n d : Nat) : Ieee.Toward.zero.cut s n d ≤ n / 2 ^ d := by
  unfold Ieee.Toward.cut
  simp only [Bool.toNat_false, Nat.add_zero, Nat.shiftLeft_eq, Nat.one_mul]
  by_cases h : d ≤ n.log2 + 2
  · rw [Nat.min_eq_left h]; exact Nat.le_refl _
  · rw [Nat.min_eq_right (by omega)]
    have : n / 2 ^ (n.log2 + 2) = 0 := Nat.div_eq_of_lt (Nat.lt_of_lt_of_le Nat.lt_log2_self (Nat.pow_le_pow_right (by decide) (by omega)))
    rw [this]; exact Nat.zero_le _
theorem icompare_gt {x y : Int} (h : compare x y ≠ .gt) : x ≤ y := by
  by_cases hxy : x ≤ y
  · exact hxy
  · exfalso
    apply h
    show compareOfLessAndEq x y = .gt
    unfold compareOfLessAndEq
    rw [if_neg (by omega), if_neg (by omega)]
theorem icompare_lt {x y : Int} (h : compare x y ≠ .lt) : y ≤ x := by
  by_cases hxy : y ≤ x
  · exact hxy
  · exfalso
    apply h
    show compareOfLessAndEq x y = .lt
    unfold compareOfLessAndEq
    rw [if_pos (by omega)]
theorem num_cell {x k : Nat} (hk : k ≤ 214) (h1 : fcmp .geq .f64 x 0 = true) (h2 : fcmp .gtr .f64 x (FloatKind.f64.nearest (k : Int)) = false) :
    ∃ i : Nat, i ≤ k ∧ floatToIntVal .f64 x .i64 = some (i : Int) ∧ fover .f64 .f32 x = false := by
  obtain ⟨mk, ek, hK, he1, he2, hmk⟩ := kOk_is hk
  have hz : Ieee.double.read 0 = .number false 0 (-1074) := by decide
  have hg : ((Ieee.double.read x).order (Ieee.double.read 0) == some .gt || (Ieee.double.read x).order (Ieee.double.read 0) == some .eq) = true := h1
  have hn : ((Ieee.double.read x).order (Ieee.double.read (FloatKind.f64.nearest (k : Int))) == some .gt) = false := h2
  rw [hz] at hg
  rw [show Ieee.double.read (FloatKind.f64.nearest (k : Int)) = .number false mk ek from hK] at hn
  cases hx : Ieee.double.read x with
  | nan => rw [hx] at hg; simp [Ieee.Datum.order] at hg
  | infinity s =>
    rw [hx] at hg hn
    cases s <;> simp [Ieee.Datum.order] at hg hn
  | number s m e =>
    have hx' : FloatKind.f64.decode x = .number s m e := hx
    obtain ⟨b1, b2, b3, b4⟩ := decode_double_bound hx'
    rw [hx] at hg hn
    simp only [Ieee.Datum.order, signed0] at hg hn
    have hpos : 0 ≤ Ieee.signed s m (e - min e (-1074)).toNat := by
      refine icompare_lt ?_
      intro hc
      rw [hc] at hg
      simp at hg
    have hle : Ieee.signed s m (e - min e ek).toNat ≤ Ieee.signed false mk (ek - min e ek).toNat := by
      refine icompare_gt ?_
      intro hc
      rw [hc] at hn
      simp at hn
    have hsm : s = false ∨ m = 0 := by
      cases s
      · exact .inl rfl
      · right
        unfold Ieee.signed at hpos
        simp only [if_true, shl_eq] at hpos
        rcases Nat.eq_zero_or_pos m with h | h
        · exact h
        · exfalso
          have := Nat.mul_pos h (pow_pos' ((e - min e (-1074)).toNat))
          omega
    have hsig : ∀ u, Ieee.signed s m u = ((m <<< u : Nat) : Int) := by
      intro u
      rcases hsm with rfl | rfl
      · rfl
      · rw [signed0]; simp
    rw [hsig] at hle
    have hle' : m * 2 ^ (e - min e ek).toNat ≤ mk * 2 ^ (ek - min e ek).toNat := by
      have : ((m <<< (e - min e ek).toNat : Nat) : Int) ≤ ((mk <<< (ek - min e ek).toNat : Nat) : Int) := hle
      rw [shl_eq, shl_eq] at this
      exact_mod_cast this
    -- m * 2 ^ e ≤ k
    have hval : (e ≤ 0 → m ≤ k * 2 ^ (-e).toNat) ∧ (0 < e → m * 2 ^ e.toNat ≤ k) := by
      rcases Int.le_total e ek with hee | hee
      · have e1 : (e - min e ek).toNat = 0 := by omega
        rw [e1, Nat.pow_zero, Nat.mul_one, hmk, Nat.mul_assoc, ← Nat.pow_add, show (-ek).toNat + (ek - min e ek).toNat = (-e).toNat by omega] at hle'
        exact ⟨fun _ => hle', fun h => by omega⟩
      · have e1 : (ek - min e ek).toNat = 0 := by omega
        rw [e1, Nat.pow_zero, Nat.mul_one, hmk] at hle'
        constructor
        · intro h
          have e2 : (-ek).toNat = (-e).toNat + (e - min e ek).toNat := by omega
          rw [e2, Nat.pow_add, ← Nat.mul_assoc] at hle'
          exact Nat.le_of_mul_le_mul_right hle' (pow_pos' _)
        · intro h
          have e2 : (e - min e ek).toNat = e.toNat + (-ek).toNat := by omega
          rw [e2, Nat.pow_add, ← Nat.mul_assoc] at hle'
          exact Nat.le_of_mul_le_mul_right hle' (pow_pos' _)
    have hcut : Ieee.Toward.zero.cut s (m <<< e.toNat) (-e).toNat ≤ k := by
      refine Nat.le_trans (cutz_le _ _ _) ?_
      rw [shl_eq]
      rcases Int.le_total e 0 with h | h
      · rw [show e.toNat = 0 by omega, Nat.pow_zero, Nat.mul_one]
        exact Nat.div_le_of_le_mul (by rw [Nat.mul_comm]; exact hval.1 h)
      · rcases Int.le_iff_lt_or_eq.1 h with h' | h'
        · rw [show (-e).toNat = 0 by omega, Nat.pow_zero, Nat.div_one]; exact hval.2 h'
        · rw [← h'] at hval ⊢
          simpa using hval.1 (Int.le_refl _)
    refine ⟨Ieee.Toward.zero.cut s (m <<< e.toNat) (-e).toNat, hcut, ?_, ?_⟩
    · unfold floatToIntVal
      rw [hx']
      simp only [Ieee.Datum.toInt, Ieee.Datum.integral]
      have hs0 : Ieee.signed s (Ieee.Toward.zero.cut s (m <<< e.toNat) (-e).toNat) 0 = ((Ieee.Toward.zero.cut s (m <<< e.toNat) (-e).toNat : Nat) : Int) := by
        rcases hsm with rfl | rfl
        · simp [Ieee.signed]
        · have h0 : Ieee.Toward.zero.cut s (0 <<< e.toNat) (-e).toNat = 0 := Nat.le_zero.1 (Nat.le_trans (cutz_le _ _ _) (by simp))
          rw [h0, signed0]; rfl
      rw [hs0, if_pos]
      have hmin : IntKind.i64.min = -9223372036854775808 := by decide
      have hmax : IntKind.i64.max = 9223372036854775807 := by decide
      rw [hmin, hmax]
      omega
    · refine fover_small hx' ?_
      rcases Nat.eq_zero_or_pos m with h0 | h0
      · subst h0
        have : e = -1074 := by
          rcases b3 with h | h
          · exact h
          · omega
        rw [this]; decide
      · have hlog := Nat.log2_self_le (n := m) (by omega)
        rcases Int.le_total e 0 with h | h
        · have h3 := hval.1 h
          have h4 : 2 ^ m.log2 ≤ 256 * 2 ^ (-e).toNat := Nat.le_trans hlog (Nat.le_trans h3 (Nat.mul_le_mul_right _ (by omega)))
          rw [show (256 : Nat) = 2 ^ 8 from rfl, ← Nat.pow_add] at h4
          have := (Nat.pow_le_pow_iff_right (a := 2) (by decide)).1 h4
          omega
        · have h3 : m * 2 ^ e.toNat ≤ k := by
            rcases Int.le_iff_lt_or_eq.1 h with h' | h'
            · exact hval.2 h'
            · rw [← h'] at hval ⊢; simpa using hval.1 (Int.le_refl _)
          have h4 : 2 ^ (m.log2 + e.toNat) ≤ 2 ^ 8 := by
            rw [Nat.pow_add]
            exact Nat.le_trans (Nat.mul_le_mul_right _ hlog) (Nat.le_trans h3 (by omega))
          have := (Nat.pow_le_pow_iff_right (a := 2) (by decide)).1 h4
          omega

/-- The number before a coordinate: as the program makes it, as the reference makes it. -/
def kN (n : Int) : Nat := FloatKind.f64.nearest (n - 2)
def clampK (n : Int) (x : Nat) : Nat := if fcmp .gtr .f64 x (kN n) then kN n else x
def clI (u : Nat) (n : Int) : Nat := clampK n (if fcmp .geq .f64 (ffl (up u)) 0 then ffl (up u) else 0)
def clS (u : Nat) (n : Int) : Nat := clampK n (if fcmp .gtr .f64 (ffl (up u)) 0 then ffl (up u) else 0)
def cix (x : Nat) : Nat := ((floatToIntVal .f64 x .i64).getD 0).toNat
def celI (u : Nat) (n : Int) : Nat × Nat := if n = 1 then (0, 0) else (cix (clI u n), fop .sub .f32 u (fconv .f64 .f32 (clI u n)))
def celS (u : Nat) (n : Int) : Nat × Nat := if n = 1 then (0, 0) else (cix (clS u n), fop .sub .f32 u (fconv .f64 .f32 (clS u n)))
theorem zero_cells : ∀ k : Fin 215, (fcmp .gtr .f64 0 (FloatKind.f64.nearest (k.val : Int)) || fcmp .gtr .f64 9223372036854775808 (FloatKind.f64.nearest (k.val : Int)) || !fcmp .geq .f64 (FloatKind.f64.nearest (k.val : Int)) 0 || fcmp .gtr .f64 (FloatKind.f64.nearest (k.val : Int)) (FloatKind.f64.nearest (k.val : Int))) = false := by decide +kernel
theorem kN_facts {n : Int} (h : 2 ≤ n ∧ n ≤ 216) : fcmp .gtr .f64 0 (kN n) = false ∧ fcmp .gtr .f64 9223372036854775808 (kN n) = false ∧ fcmp .geq .f64 (kN n) 0 = true ∧ fcmp .gtr .f64 (kN n) (kN n) = false := by
  have h1 := zero_cells ⟨(n - 2).toNat, by omega⟩
  have e : (((n - 2).toNat : Nat) : Int) = n - 2 := by omega
  simp only at h1
  rw [e] at h1
  simp only [Bool.or_eq_false_iff, Bool.not_eq_false'] at h1
  exact ⟨h1.1.1.1, h1.1.1.2, h1.1.2, h1.2⟩
theorem clamp_ok {n : Int} {x : Nat} (h : 2 ≤ n ∧ n ≤ 216) (hx : fcmp .geq .f64 x 0 = true) : ∃ i : Nat, (i : Int) ≤ n - 2 ∧ floatToIntVal .f64 (clampK n x) .i64 = some (i : Int) ∧ fover .f64 .f32 (clampK n x) = false := by
  have e : (((n - 2).toNat : Nat) : Int) = n - 2 := by omega
  obtain ⟨k1, k2, k3, k4⟩ := kN_facts h
  have key : ∀ y, fcmp .geq .f64 y 0 = true → fcmp .gtr .f64 y (kN n) = false → ∃ i : Nat, (i : Int) ≤ n - 2 ∧ floatToIntVal .f64 y .i64 = some (i : Int) ∧ fover .f64 .f32 y = false := by
    intro y h1 h2
    obtain ⟨i, g1, g2, g3⟩ := num_cell (x := y) (k := (n - 2).toNat) (by omega) h1 (by rw [e]; exact h2)
    exact ⟨i, by omega, g2, g3⟩
  unfold clampK
  cases hg : fcmp .gtr .f64 x (kN n)
  · exact key x hx hg
  · exact key (kN n) k3 k4
theorem geq0 : fcmp .geq .f64 0 0 = true := by decide
theorem gtr_geq {x y : Nat} (h : fcmp .gtr .f64 x y = true) : fcmp .geq .f64 x y = true := by
  unfold fcmp at h ⊢
  simp only at h ⊢
  rw [h]; rfl
theorem clI_ok {u : Nat} {n : Int} (h : 2 ≤ n ∧ n ≤ 216) : ∃ i : Nat, (i : Int) ≤ n - 2 ∧ floatToIntVal .f64 (clI u n) .i64 = some (i : Int) ∧ fover .f64 .f32 (clI u n) = false := by
  unfold clI
  refine clamp_ok h ?_
  cases hg : fcmp .geq .f64 (ffl (up u)) 0
  · exact geq0
  · exact hg
theorem clS_ok {u : Nat} {n : Int} (h : 2 ≤ n ∧ n ≤ 216) : ∃ i : Nat, (i : Int) ≤ n - 2 ∧ floatToIntVal .f64 (clS u n) .i64 = some (i : Int) ∧ fover .f64 .f32 (clS u n) = false := by
  unfold clS
  refine clamp_ok h ?_
  cases hg : fcmp .gtr .f64 (ffl (up u)) 0
  · exact geq0
  · exact gtr_geq hg
theorem ffl_lt (x : Nat) : ffl x < 2 ^ 64 := by
  unfold ffl
  generalize FloatKind.f64.decode x = d
  cases d with
  | nan => show qn .f64 < 2 ^ 64; decide
  | infinity s => exact encode_lt .f64 _
  | number s m e => exact encode_lt .f64 _
/-- a word that is equal to zero -/
theorem zero_word {x : Nat} (hx : x < 2 ^ 64) (h1 : fcmp .geq .f64 x 0 = true) (h2 : fcmp .gtr .f64 x 0 = false) : x = 0 ∨ x = 9223372036854775808 := by
  have hz : Ieee.double.read 0 = .number false 0 (-1074) := by decide
  have hg : ((Ieee.double.read x).order (Ieee.double.read 0) == some .gt || (Ieee.double.read x).order (Ieee.double.read 0) == some .eq) = true := h1
  have hn : ((Ieee.double.read x).order (Ieee.double.read 0) == some .gt) = false := h2
  rw [hn, Bool.false_or, hz, beq_iff_eq] at hg
  have hsw : Ieee.double.signWeight = 9223372036854775808 := by decide
  have hinf : Ieee.double.infRung = 9218868437227405312 := by decide
  have hbin : Ieee.double.binade = 4503599627370496 := by decide
  have hm : x % 9223372036854775808 = 0 := by
    cases hr : Ieee.double.read x with
    | nan => rw [hr] at hg; simp [Ieee.Datum.order] at hg
    | infinity s => rw [hr] at hg; cases s <;> simp [Ieee.Datum.order] at hg
    | number s m e =>
      rw [hr] at hg
      simp only [Ieee.Datum.order, signed0, Option.some.injEq] at hg
      have h0 := icompare_eq' hg
      have hm0 : m = 0 := by
        rcases Nat.eq_zero_or_pos m with h | h
        · exact h
        · exfalso
          have := Nat.mul_pos h (pow_pos' ((e - min e (-1074)).toNat))
          unfold Ieee.signed at h0
          rw [shl_eq] at h0
          split at h0 <;> omega
      subst hm0
      unfold Ieee.Format.read at hr
      simp only [hsw, hinf, hbin] at hr
      split at hr
      · injection hr with _ hb _
      · split at hr
        · injection hr with _ hb _; omega
        · split at hr <;> cases hr
  omega
where
  icompare_eq' {x y : Int} (h : compare x y = .eq) : x = y := by
    change compareOfLessAndEq x y = .eq at h
    unfold compareOfLessAndEq at h
    split at h
    · cases h
    · split at h
      · assumption
      · cases h
/-- The two ways are alike but for the sign of a zero. -/
theorem cl_same (u : Nat) {n : Int} (h : 2 ≤ n ∧ n ≤ 216) : clI u n = clS u n ∨ (clI u n = 9223372036854775808 ∧ clS u n = 0) := by
  obtain ⟨k1, k2, k3, k4⟩ := kN_facts h
  unfold clI clS
  cases hg : fcmp .gtr .f64 (ffl (up u)) 0
  · cases hq : fcmp .geq .f64 (ffl (up u)) 0
    · exact .inl rfl
    · rcases zero_word (ffl_lt _) hq hg with e | e
      · rw [e]; exact .inl rfl
      · right
        rw [e]
        unfold clampK
        refine ⟨by rw [if_pos rfl, k2]; rfl, ?_⟩
        show (if fcmp .gtr .f64 0 (kN n) then kN n else 0) = 0
        rw [k1]; rfl
  · rw [gtr_geq hg]; exact .inl rfl
theorem cel_same (u : Nat) {n : Int} (h : 1 ≤ n ∧ n ≤ 216) : (celI u n).1 = (celS u n).1 ∧ zq (celI u n).2 (celS u n).2 := by
  unfold celI celS
  by_cases h1 : n = 1
  · rw [if_pos h1, if_pos h1]; exact ⟨rfl, .refl _⟩
  · rw [if_neg h1, if_neg h1]
    rcases cl_same u (n := n) (by omega) with e | ⟨e1, e2⟩
    · rw [e]; exact ⟨rfl, .refl _⟩
    · rw [e1, e2]
      refine ⟨show cix 9223372036854775808 = cix 0 by decide, zq_sub (.refl u) (.inr ⟨.inr ?_, .inl ?_⟩)⟩ <;> decide
theorem cel_lt (u : Nat) {n : Int} (h : 1 ≤ n ∧ n ≤ 216) : (n = 1 → (celI u n).1 = 0) ∧ (n ≠ 1 → ((celI u n).1 : Int) + 1 < n) := by
  unfold celI
  constructor
  · intro h1; rw [if_pos h1]
  · intro h1
    rw [if_neg h1]
    obtain ⟨i, g1, g2, _⟩ := clI_ok (u := u) (n := n) (by omega)
    unfold cix
    rw [g2]
    simp only [Option.getD_some, Int.toNat_natCast]
    omega
theorem celI_val {u i : Nat} {n : Int} (h : n ≠ 1) (hi : floatToIntVal .f64 (clI u n) .i64 = some (i : Int)) : celI u n = (i, fop .sub .f32 u (fconv .f64 .f32 (clI u n))) := by
  unfold celI cix; rw [if_neg h, hi]; rfl
theorem celS_val {u i : Nat} {n : Int} (h : n ≠ 1) (hi : floatToIntVal .f64 (clS u n) .i64 = some (i : Int)) : celS u n = (i, fop .sub .f32 u (fconv .f64 .f32 (clS u n))) := by
  unfold celS cix; rw [if_neg h, hi]; rfl

/-! ### the value between nodes -/
def rowV (vs : List V3) (W H : Nat) (c : Nat × Nat) (y z : Nat) : V3 := if W = 1 then mval vs W H c.1 y z else between3 (mval vs W H c.1 y z) (mval vs W H (c.1 + 1) y z) c.2
def colV (vs : List V3) (W H : Nat) (c d : Nat × Nat) (z : Nat) : V3 := if H = 1 then rowV vs W H c d.1 z else between3 (rowV vs W H c d.1 z) (rowV vs W H c (d.1 + 1) z) d.2
def valV (vs : List V3) (W H D : Nat) (c d e : Nat × Nat) : V3 := if D = 1 then colV vs W H c d e.1 else between3 (colV vs W H c d e.1) (colV vs W H c d (e.1 + 1)) e.2
def crd (p f st : Nat) : Nat := fop .quo .f32 (fop .sub .f32 p f) st
def valI (vs : List V3) (f : V3) (st W H D : Nat) (p : V3) : V3 := valV vs W H D (celI (crd p.1 f.1 st) W) (celI (crd p.2.1 f.2.1 st) H) (celI (crd p.2.2 f.2.2 st) D)
def valS (vs : List V3) (f : V3) (st W H D : Nat) (p : V3) : V3 := valV vs W H D (celS (crd p.1 f.1 st) W) (celS (crd p.2.1 f.2.1 st) H) (celS (crd p.2.2 f.2.2 st) D)
section
variable {vs : List V3} {W H D y z : Nat} {c c' d d' e e' : Nat × Nat}
theorem row_zq (h : c.1 = c'.1 ∧ zq c.2 c'.2) : zq3 (rowV vs W H c y z) (rowV vs W H c' y z) := by
  unfold rowV
  rw [h.1]
  split
  · exact .refl _
  · exact zq3_between (.refl _) (.refl _) h.2
theorem col_zq (h : c.1 = c'.1 ∧ zq c.2 c'.2) (k : d.1 = d'.1 ∧ zq d.2 d'.2) : zq3 (colV vs W H c d z) (colV vs W H c' d' z) := by
  unfold colV
  rw [k.1]
  split
  · exact row_zq h
  · exact zq3_between (row_zq h) (row_zq h) k.2
theorem val_zq' (h : c.1 = c'.1 ∧ zq c.2 c'.2) (k : d.1 = d'.1 ∧ zq d.2 d'.2) (l : e.1 = e'.1 ∧ zq e.2 e'.2) : zq3 (valV vs W H D c d e) (valV vs W H D c' d' e') := by
  unfold valV
  rw [l.1]
  split
  · exact col_zq h k
  · exact zq3_between (col_zq h k) (col_zq h k) l.2
end
theorem val_zq {vs : List V3} {f : V3} {st W H D : Nat} {p : V3} (hW : 1 ≤ W ∧ W ≤ 216) (hH : 1 ≤ H ∧ H ≤ 216) (hD : 1 ≤ D ∧ D ≤ 216) : zq3 (valI vs f st W H D p) (valS vs f st W H D p) :=
  val_zq' (cel_same _ (by omega)) (cel_same _ (by omega)) (cel_same _ (by omega))

/-! ### what has no number has no distance -/
theorem qn_l (op : BinOp) (y : Nat) : fop op .f32 (qn .f32) y = qn .f32 := by simp [fop, floatBits_nan_left (fnan_qn .f32)]
theorem qn_r (op : BinOp) (x : Nat) : fop op .f32 x (qn .f32) = qn .f32 := by simp [fop, floatBits_nan_right (fnan_qn .f32)]
theorem sub_self_qn {x : Nat} (h : fin x = false) : fop .sub .f32 x x = qn .f32 := by
  cases hn : fnan .f32 x
  · rcases Nat.lt_or_ge (rng Ieee.single x) Ieee.single.infRung with hl | hl
    · rw [fin_of_rng hl] at h; cases h
    · have hi : Ieee.single.read x = .infinity (sgn Ieee.single x) := read_inf .f32 (Nat.le_antisymm (rng_le hn) hl)
      unfold fop floatBits Ieee.Format.sub
      simp only [show FloatKind.f32.format = Ieee.single from rfl, hi]
      generalize sgn Ieee.single x = s
      cases s <;> decide
  · simp [fop, floatBits_nan_left hn]
theorem sumA_q1 {ws : List Wr} {p s : V3} (h : s.1 = qn .f32) : ∀ k, (sumA ws p s k).1 = qn .f32
  | 0 => h
  | k + 1 => by show fop .add .f32 (sumA ws p s k).1 _ = _; rw [sumA_q1 h k]; exact qn_l _ _
theorem sumA_q2 {ws : List Wr} {p s : V3} (h : s.2.1 = qn .f32) : ∀ k, (sumA ws p s k).2.1 = qn .f32
  | 0 => h
  | k + 1 => by show fop .add .f32 (sumA ws p s k).2.1 _ = _; rw [sumA_q2 h k]; exact qn_l _ _
theorem sumA_q3 {ws : List Wr} {p s : V3} (h : s.2.2 = qn .f32) : ∀ k, (sumA ws p s k).2.2 = qn .f32
  | 0 => h
  | k + 1 => by show fop .add .f32 (sumA ws p s k).2.2 _ = _; rw [sumA_q3 h k]; exact qn_l _ _
theorem sqrt_qn : sqrt32 (qn .f32) = qn .f32 := by decide
theorem far_no {ws : List Wr} {p v : V3} (s : Nat) (h : fin3 p = false) : fcmp .gtr .f32 (long3 (sub3 v (fieldS ws p))) s = false := by
  have hl : long3 (sub3 v (fieldS ws p)) = qn .f32 := by
    have key : inner3 (sub3 v (fieldS ws p)) (sub3 v (fieldS ws p)) = qn .f32 := by
      unfold fieldS
      rw [h, if_neg (by decide)]
      unfold fin3 at h
      unfold inner3 sub3
      simp only
      cases h1 : fin p.1
      · rw [sumA_q1 (s := (fop .sub .f32 p.1 p.1, fop .sub .f32 p.2.1 p.2.1, fop .sub .f32 p.2.2 p.2.2)) (sub_self_qn h1), qn_r, qn_l, qn_l, qn_l]
      · cases h2 : fin p.2.1
        · rw [sumA_q2 (s := (fop .sub .f32 p.1 p.1, fop .sub .f32 p.2.1 p.2.1, fop .sub .f32 p.2.2 p.2.2)) (sub_self_qn h2), qn_r, qn_l, qn_r, qn_l]
        · rw [h1, h2] at h
          rw [sumA_q3 (s := (fop .sub .f32 p.1 p.1, fop .sub .f32 p.2.1 p.2.1, fop .sub .f32 p.2.2 p.2.2)) (sub_self_qn h), qn_r, qn_l, qn_r]
    unfold long3
    rw [key]; exact sqrt_qn
  rw [hl]
  unfold fcmp
  simp only
  rw [order_nan_left (fnan_qn .f32)]
  rfl

/-! ### the worst -/
def hvN (n : Nat) : Nat := if n = 1 then 1 else n - 1
def mid (n x : Nat) : Nat := if n = 1 then 0 else fop .add .f32 (FloatKind.f32.nearest (x : Int)) 1056964608
def hv (n : Nat) : List Nat := (List.range (hvN n)).map (mid n)
theorem hv_length (n : Nat) : (hv n).length = hvN n := by simp [hv]
theorem hv_get {n x : Nat} (h : x < hvN n) : (hv n).getD x 0 = mid n x := by simp [hv, h]
def act (n x : Nat) : Bool := decide (n = 1 ∨ x + 1 < n)
theorem act_lt {n x : Nat} (h : x < hvN n) : act n x = true ∧ (1 ≤ n → x < n) := by
  unfold hvN at h
  unfold act
  refine ⟨decide_eq_true ?_, ?_⟩
  · split at h <;> omega
  · split at h <;> omega
def wdist (ws : List Wr) (vs : List V3) (f : V3) (st W H D : Nat) (p : V3) : Nat := long3 (sub3 (valI vs f st W H D p) (fieldI ws p))
def wbN (ws : List Wr) (vs : List V3) (f : V3) (st W H D s : Nat) (p : V3) : Nat := if fin3 p && fcmp .gtr .f32 (wdist ws vs f st W H D p) s then wdist ws vs f st W H D p else s
def mplc (f : V3) (st W H D k : Nat) : V3 := place3 f st (mid W (k % W)) (mid H (k / W % H)) (mid D (k / W / H))
def actK (W H D k : Nat) : Bool := act W (k % W) && act H (k / W % H) && act D (k / W / H)
def wbU (ws : List Wr) (vs : List V3) (f : V3) (st W H D : Nat) : Nat → Nat
  | 0 => 0
  | k + 1 => if actK W H D k then wbN ws vs f st W H D (wbU ws vs f st W H D k) (mplc f st W H D k) else wbU ws vs f st W H D k
section
variable {ws : List Wr} {vs : List V3} {f p : V3} {st W H D x y z k a b s : Nat}
theorem wbN_yes (h : fin3 p = true) (h2 : fcmp .gtr .f32 (wdist ws vs f st W H D p) s = true) : wbN ws vs f st W H D s p = wdist ws vs f st W H D p := by unfold wbN; rw [h, h2]; rfl
theorem wbN_no1 (h : fin3 p = false) : wbN ws vs f st W H D s p = s := by unfold wbN; rw [h]; rfl
theorem wbN_no2 (h2 : fcmp .gtr .f32 (wdist ws vs f st W H D p) s = false) : wbN ws vs f st W H D s p = s := by unfold wbN; rw [h2, Bool.and_false]; rfl
/-- .. as the reference makes it -/
theorem wbN_yesS (hW : 1 ≤ W ∧ W ≤ 216) (hH : 1 ≤ H ∧ H ≤ 216) (hD : 1 ≤ D ∧ D ≤ 216) (h : fcmp .gtr .f32 (long3 (sub3 (valS vs f st W H D p) (fieldS ws p))) s = true) : wbN ws vs f st W H D s p = long3 (sub3 (valS vs f st W H D p) (fieldS ws p)) := by
  cases hf : fin3 p
  · rw [far_no s hf] at h; cases h
  · have e : long3 (sub3 (valS vs f st W H D p) (fieldS ws p)) = wdist ws vs f st W H D p := by unfold wdist; rw [fieldS_fin hf, long_zq (val_zq hW hH hD)]
    rw [e] at h ⊢
    exact wbN_yes hf h
theorem wbN_noS (hW : 1 ≤ W ∧ W ≤ 216) (hH : 1 ≤ H ∧ H ≤ 216) (hD : 1 ≤ D ∧ D ≤ 216) (h : fcmp .gtr .f32 (long3 (sub3 (valS vs f st W H D p) (fieldS ws p))) s = false) : wbN ws vs f st W H D s p = s := by
  cases hf : fin3 p
  · exact wbN_no1 hf
  · have e : long3 (sub3 (valS vs f st W H D p) (fieldS ws p)) = wdist ws vs f st W H D p := by unfold wdist; rw [fieldS_fin hf, long_zq (val_zq hW hH hD)]
    rw [e] at h
    exact wbN_no2 h
theorem wbU_in (hx : x < hvN W) (hy : y < hvN H) (hz : z < hvN D) (hW : 1 ≤ W) (hH : 1 ≤ H) : wbU ws vs f st W H D (nd W H x y z + 1) = wbN ws vs f st W H D (wbU ws vs f st W H D (nd W H x y z)) (place3 f st (mid W x) (mid H y) (mid D z)) := by
  obtain ⟨ax, bx⟩ := act_lt hx
  obtain ⟨ay, yb⟩ := act_lt hy
  obtain ⟨az, _⟩ := act_lt hz
  rw [wbU, if_pos (by unfold actK; rw [nd_x (bx hW), nd_y (bx hW) (yb hH), nd_z (bx hW) (yb hH), ax, ay, az]; rfl)]
  unfold mplc
  rw [nd_x (bx hW), nd_y (bx hW) (yb hH), nd_z (bx hW) (yb hH)]
theorem wbU_skip : ∀ (d : Nat), (∀ j, a ≤ j → j < a + d → actK W H D j = false) → wbU ws vs f st W H D (a + d) = wbU ws vs f st W H D a
  | 0, _ => rfl
  | d + 1, h => by
    rw [← Nat.add_assoc, wbU, if_neg (by rw [h (a + d) (by omega) (by omega)]; decide)]
    exact wbU_skip d fun j h1 h2 => h j h1 (by omega)
theorem wbU_skip' (hab : a ≤ b) (h : ∀ j, a ≤ j → j < b → actK W H D j = false) : wbU ws vs f st W H D b = wbU ws vs f st W H D a := by
  obtain ⟨d, rfl⟩ : ∃ d, b = a + d := ⟨b - a, by omega⟩
  exact wbU_skip d h
theorem act_no {n x : Nat} (h : n ≠ 1 ∧ n ≤ x + 1) : act n x = false := by unfold act; rw [decide_eq_false_iff_not]; omega
theorem wbU_xn (hW : 1 ≤ W) : wbU ws vs f st W H D (nd W H 0 (y + 1) z) = wbU ws vs f st W H D (nd W H (hvN W) y z) := by
  have e : nd W H 0 (y + 1) z = W + W * (y + H * z) := by unfold nd; rw [Nat.zero_add, nd_end]
  rw [e]; unfold nd hvN
  by_cases h1 : W = 1
  · rw [if_pos h1, h1]
  · rw [if_neg h1]
    refine wbU_skip' (by omega) fun j h2 h3 => ?_
    obtain rfl : j = (W - 1) + W * (y + H * z) := by omega
    unfold actK
    rw [(nd_div (by omega) _).2, act_no (by omega)]; rfl
theorem wbU_yn (hH : 1 ≤ H) : wbU ws vs f st W H D (nd W H 0 0 (z + 1)) = wbU ws vs f st W H D (nd W H 0 (hvN H) z) := by
  have e : nd W H 0 0 (z + 1) = W * (H + H * z) := by unfold nd; rw [Nat.zero_add, nd_endy]
  rw [e]; unfold nd hvN
  rw [Nat.zero_add]
  by_cases h1 : H = 1
  · rw [if_pos h1, h1]
  · rw [if_neg h1]
    have e2 : W * (H + H * z) = W * ((H - 1) + H * z) + W := by
      rw [show H + H * z = ((H - 1) + H * z) + 1 by omega, Nat.mul_succ]
    refine wbU_skip' (by omega) fun j h2 h3 => ?_
    unfold actK
    rw [nd_row (y := (H - 1) + H * z) h2 (by rw [Nat.mul_succ]; omega), (nd_div (by omega) z).2, act_no (n := H) (x := H - 1) (by omega), Bool.and_false]; rfl
theorem wbU_zn (hW : 1 ≤ W) (hH : 1 ≤ H) : wbU ws vs f st W H D (W * H * D) = wbU ws vs f st W H D (nd W H 0 0 (hvN D)) := by
  have e : nd W H 0 0 (hvN D) = W * H * hvN D := by unfold nd; rw [Nat.zero_add, Nat.zero_add, Nat.mul_assoc]
  rw [e]; unfold hvN
  by_cases h1 : D = 1
  · rw [if_pos h1, h1]
  · rw [if_neg h1]
    refine wbU_skip' (Nat.mul_le_mul_left _ (by omega)) fun j h2 h3 => ?_
    have hp : 0 < W * H := Nat.mul_pos hW hH
    have h4 : D - 1 ≤ j / W / H := by rw [Nat.div_div_eq_div_mul, Nat.le_div_iff_mul_le hp, Nat.mul_comm]; exact h2
    unfold actK
    rw [act_no (n := D) (x := j / W / H) (by omega), Bool.and_false]
theorem can_wbU : ∀ k, Can .f32 (wbU ws vs f st W H D k)
  | 0 => can_f0
  | k + 1 => by
    have ih := can_wbU k
    rw [wbU]; split
    · unfold wbN; split
      · unfold wdist long3; exact can_sqrt32 _
      · exact ih
    · exact ih
end
def wbL (ws : List Wr) (vs : List V3) (f : V3) (st : Nat) (wi hi de : Int) : Nat := wbU ws vs f st wi.toNat hi.toNat de.toNat (wi.toNat * hi.toNat * de.toNat)
def wbOk (ws : List Wr) (vs : List V3) (f : V3) (st : Nat) (wi hi de : Int) : Bool := wiresOk ws && meshOk f st wi hi de vs.length && fin (wbL ws vs f st wi hi de)
def wbD (ws : List Wr) (vs : List V3) (f : V3) (st : Nat) (wi hi de : Int) : Nat := if wbOk ws vs f st wi hi de then wbL ws vs f st wi hi de else 0
section
variable {ws : List Wr} {vs : List V3} {f : V3} {st : Nat} {wi hi de : Int}
theorem wb_yes (h1 : wiresOk ws = true) (h2 : meshOk f st wi hi de vs.length = true) (h3 : fin (wbL ws vs f st wi hi de) = true) : wbOk ws vs f st wi hi de = true := by unfold wbOk; rw [h1, h2, h3]; rfl
theorem wb_no1 (h : wiresOk ws = false) : wbOk ws vs f st wi hi de = false := by unfold wbOk; rw [h]; rfl
theorem wb_no2 (h : meshOk f st wi hi de vs.length = false) : wbOk ws vs f st wi hi de = false := by unfold wbOk; rw [h, Bool.and_false]; rfl
theorem wb_no3 (h : fin (wbL ws vs f st wi hi de) = false) : wbOk ws vs f st wi hi de = false := by unfold wbOk; rw [h, Bool.and_false]
theorem wbD_yes (h : wbOk ws vs f st wi hi de = true) : wbD ws vs f st wi hi de = wbL ws vs f st wi hi de := by unfold wbD; rw [h]; rfl
theorem wbD_no (h : wbOk ws vs f st wi hi de = false) : wbD ws vs f st wi hi de = 0 := by unfold wbD; rw [h]; rfl
theorem can_wbD : Can .f32 (wbD ws vs f st wi hi de) := by unfold wbD; split; exact can_wbU _; exact can_f0
end
/-! ### words for the walks -/
section
variable {u : Nat} {n : Int} {X i : Nat}
theorem clI_a (h1 : fcmp .geq .f64 (ffl (up u)) 0 = true) (h2 : fcmp .gtr .f64 (ffl (up u)) (FloatKind.f64.nearest (n - 2)) = true) : clI u n = FloatKind.f64.nearest (n - 2) := by unfold clI clampK kN; simp only [h1, h2, if_true]
theorem clI_b (h1 : fcmp .geq .f64 (ffl (up u)) 0 = true) (h2 : fcmp .gtr .f64 (ffl (up u)) (FloatKind.f64.nearest (n - 2)) = false) : clI u n = ffl (up u) := by unfold clI clampK kN; simp only [h1, h2, if_true, if_false, Bool.false_eq_true]
theorem clI_c (h1 : fcmp .geq .f64 (ffl (up u)) 0 = false) (h2 : fcmp .gtr .f64 0 (FloatKind.f64.nearest (n - 2)) = true) : clI u n = FloatKind.f64.nearest (n - 2) := by unfold clI clampK kN; simp only [h1, h2, if_true, if_false, Bool.false_eq_true]
theorem clI_d (h1 : fcmp .geq .f64 (ffl (up u)) 0 = false) (h2 : fcmp .gtr .f64 0 (FloatKind.f64.nearest (n - 2)) = false) : clI u n = 0 := by unfold clI clampK kN; simp only [h1, h2, if_false, Bool.false_eq_true]
theorem clS_a (h1 : fcmp .gtr .f64 (ffl (up u)) 0 = true) (h2 : fcmp .gtr .f64 (ffl (up u)) (FloatKind.f64.nearest (n - 2)) = true) : clS u n = FloatKind.f64.nearest (n - 2) := by unfold clS clampK kN; simp only [h1, h2, if_true]
theorem clS_b (h1 : fcmp .gtr .f64 (ffl (up u)) 0 = true) (h2 : fcmp .gtr .f64 (ffl (up u)) (FloatKind.f64.nearest (n - 2)) = false) : clS u n = ffl (up u) := by unfold clS clampK kN; simp only [h1, h2, if_true, if_false, Bool.false_eq_true]
theorem clS_c (h1 : fcmp .gtr .f64 (ffl (up u)) 0 = false) (h2 : fcmp .gtr .f64 0 (FloatKind.f64.nearest (n - 2)) = true) : clS u n = FloatKind.f64.nearest (n - 2) := by unfold clS clampK kN; simp only [h1, h2, if_true, if_false, Bool.false_eq_true]
theorem clS_d (h1 : fcmp .gtr .f64 (ffl (up u)) 0 = false) (h2 : fcmp .gtr .f64 0 (FloatKind.f64.nearest (n - 2)) = false) : clS u n = 0 := by unfold clS clampK kN; simp only [h1, h2, if_false, Bool.false_eq_true]
theorem clI_ci (h : 1 ≤ n ∧ n ≤ 216) (h1 : n ≠ 1) : floatToIntVal .f64 (clI u n) .i64 = some ((cix (clI u n) : Nat) : Int) := by
  obtain ⟨i, _, e, _⟩ := clI_ok (u := u) (n := n) (by omega)
  unfold cix; rw [e]; rfl
theorem clI_co (h : 1 ≤ n ∧ n ≤ 216) (h1 : n ≠ 1) : fover .f64 .f32 (clI u n) = false := by
  obtain ⟨i, _, _, e⟩ := clI_ok (u := u) (n := n) (by omega)
  exact e
theorem clS_ci (h : 1 ≤ n ∧ n ≤ 216) (h1 : n ≠ 1) : floatToIntVal .f64 (clS u n) .i64 = some ((cix (clS u n) : Nat) : Int) := by
  obtain ⟨i, _, e, _⟩ := clS_ok (u := u) (n := n) (by omega)
  unfold cix; rw [e]; rfl
theorem clS_co (h : 1 ≤ n ∧ n ≤ 216) (h1 : n ≠ 1) : fover .f64 .f32 (clS u n) = false := by
  obtain ⟨i, _, _, e⟩ := clS_ok (u := u) (n := n) (by omega)
  exact e
theorem ci_of {Y : Nat} {j : Int} (e : Y = X) (h : floatToIntVal .f64 Y .i64 = some j) : floatToIntVal .f64 X .i64 = some j := by rw [← e]; exact h
theorem co_of {Y : Nat} (e : Y = X) (h : fover .f64 .f32 Y = false) : fover .f64 .f32 X = false := by rw [← e]; exact h
theorem celI_of (h1 : n ≠ 1) (e : clI u n = X) : Value.tuple #[.int .i64 (cix (clI u n) : Int), .float .f32 (fop .sub .f32 u (fconv .f64 .f32 X))] = .tuple #[.int .i64 ((celI u n).1 : Int), .float .f32 (celI u n).2] := by
  unfold celI; rw [if_neg h1, ← e]
theorem celS_of (h1 : n ≠ 1) (e : clS u n = X) : Value.tuple #[.int .i64 (cix (clS u n) : Int), .float .f32 (fop .sub .f32 u (fconv .f64 .f32 X))] = .tuple #[.int .i64 ((celS u n).1 : Int), .float .f32 (celS u n).2] := by
  unfold celS; rw [if_neg h1, ← e]
theorem celI_1 (h1 : n = 1) : Value.tuple #[.int .i64 0, .float .f32 0] = .tuple #[.int .i64 ((celI u n).1 : Int), .float .f32 (celI u n).2] := by unfold celI; rw [if_pos h1]; rfl
theorem celS_1 (h1 : n = 1) : Value.tuple #[.int .i64 0, .float .f32 0] = .tuple #[.int .i64 ((celS u n).1 : Int), .float .f32 (celS u n).2] := by unfold celS; rw [if_pos h1]; rfl
theorem celS_lt (h : 1 ≤ n ∧ n ≤ 216) : (n = 1 → (celS u n).1 = 0) ∧ (n ≠ 1 → ((celS u n).1 : Int) + 1 < n) := by
  rw [← (cel_same u h).1]; exact cel_lt u h
end
def hvK (n k : Nat) : List Nat := (List.range k).map (mid n)
theorem hvK_length (n k : Nat) : (hvK n k).length = k := by simp [hvK]
theorem hvK_snoc {n k : Nat} (h : n ≠ 1) : fl (hvK n k) ++ [.float .f32 (fop .add .f32 (FloatKind.f32.nearest (k : Int)) 1056964608)] = fl (hvK n (k + 1)) := by
  rw [fl_snoc]; unfold hvK; rw [List.range_succ, List.map_append]; simp [mid, h]
theorem hvN_le {n : Nat} (h : 1 ≤ n) : hvN n ≤ n := by unfold hvN; split <;> omega
theorem hv_one : hv 1 = [0] := by decide
theorem hv_all {n : Nat} (h : n ≠ 1) : hvK n (n - 1) = hv n := by unfold hvK hv hvN; rw [if_neg h]
theorem mid_one (x : Nat) : mid 1 x = 0 := rfl
theorem mid_ne {n : Nat} (h : n ≠ 1) (x : Nat) : mid n x = fop .add .f32 (FloatKind.f32.nearest (x : Int)) 1056964608 := by unfold mid; rw [if_neg h]
theorem row_1 {vs : List V3} {W H : Nat} {c : Nat × Nat} {y z : Nat} (h : W = 1) : rowV vs W H c y z = mval vs W H c.1 y z := by unfold rowV; rw [if_pos h]
theorem row_n {vs : List V3} {W H : Nat} {c : Nat × Nat} {y z : Nat} (h : W ≠ 1) : rowV vs W H c y z = between3 (mval vs W H c.1 y z) (mval vs W H (c.1 + 1) y z) c.2 := by unfold rowV; rw [if_neg h]
theorem col_1 {vs : List V3} {W H : Nat} {c d : Nat × Nat} {z : Nat} (h : H = 1) : colV vs W H c d z = rowV vs W H c d.1 z := by unfold colV; rw [if_pos h]
theorem col_n {vs : List V3} {W H : Nat} {c d : Nat × Nat} {z : Nat} (h : H ≠ 1) : colV vs W H c d z = between3 (rowV vs W H c d.1 z) (rowV vs W H c (d.1 + 1) z) d.2 := by unfold colV; rw [if_neg h]
theorem val_1 {vs : List V3} {W H D : Nat} {c d e : Nat × Nat} (h : D = 1) : valV vs W H D c d e = colV vs W H c d e.1 := by unfold valV; rw [if_pos h]
theorem val_n {vs : List V3} {W H D : Nat} {c d e : Nat × Nat} (h : D ≠ 1) : valV vs W H D c d e = between3 (colV vs W H c d e.1) (colV vs W H c d (e.1 + 1)) e.2 := by unfold valV; rw [if_neg h]
section
variable {ws : List Wr} {vs : List V3} {f : V3} {st W H D x y z k : Nat}
theorem wbU_z : wbU ws vs f st W H D 0 = 0 := rfl
theorem wbU_0 : wbU ws vs f st W H D (nd W H 0 0 0) = 0 := by
  rw [show nd W H 0 0 0 = 0 from by unfold nd; simp]; rfl
def hvP (f : V3) (st W H D x y z : Nat) : V3 := place3 f st ((hv W).getD x 0) ((hv H).getD y 0) ((hv D).getD z 0)
theorem wbI_in (hx : x < hvN W) (hy : y < hvN H) (hz : z < hvN D) (hW : 1 ≤ W) (hH : 1 ≤ H) : wbU ws vs f st W H D (nd W H (x + 1) y z) = wbN ws vs f st W H D (wbU ws vs f st W H D (nd W H x y z)) (hvP f st W H D x y z) := by
  rw [show nd W H (x + 1) y z = nd W H x y z + 1 from by unfold nd; omega, wbU_in hx hy hz hW hH]
  unfold hvP
  rw [hv_get hx, hv_get hy, hv_get hz]
theorem wbS_no1 (h : act W (k % W) = false) : wbU ws vs f st W H D (k + 1) = wbU ws vs f st W H D k := by
  rw [wbU, if_neg (by unfold actK; simp [h])]
theorem wbS_no2 (h : act H (k / W % H) = false) : wbU ws vs f st W H D (k + 1) = wbU ws vs f st W H D k := by
  rw [wbU, if_neg (by unfold actK; simp [h])]
theorem wbS_no3 (h : act D (k / W / H) = false) : wbU ws vs f st W H D (k + 1) = wbU ws vs f st W H D k := by
  rw [wbU, if_neg (by unfold actK; simp [h])]
theorem wbS_yes (h1 : act W (k % W) = true) (h2 : act H (k / W % H) = true) (h3 : act D (k / W / H) = true) : wbU ws vs f st W H D (k + 1) = wbN ws vs f st W H D (wbU ws vs f st W H D k) (mplc f st W H D k) := by
  rw [wbU, if_pos (by unfold actK; rw [h1, h2, h3]; rfl)]
end
/-! ### remainder, quotient of what is not negative -/
theorem tmodW (a b : Nat) : Int.tmod (a : Int) (b : Int) = ((a % b : Nat) : Int) := rfl
theorem tdivW (a b : Nat) : Int.tdiv (a : Int) (b : Int) = ((a / b : Nat) : Int) := rfl
section
variable {P : Program} {E : Env} {o : Oper}
theorem yr_remW {t ty : TypeId} {x y : Operand} {p q : Int} (a b : Nat) (ho : o.op = .binOp .rem t x y ty) (hx : E.opd x = some (.int .i64 p)) (hy : E.opd y = some (.int .i64 q)) (hp : p = (a : Int)) (hq : q = (b : Int)) (hb : 0 < b) : YR P E o (.int .i64 ((a % b : Nat) : Int)) := by
  subst hp; subst hq
  have h := yr_rem (P := P) ho hx hy (by omega)
  rwa [tmodW] at h
theorem yr_quoW {t ty : TypeId} {x y : Operand} {p q : Int} (a b : Nat) (ho : o.op = .binOp .quo t x y ty) (hx : E.opd x = some (.int .i64 p)) (hy : E.opd y = some (.int .i64 q)) (hp : p = (a : Int)) (hq : q = (b : Int)) (hb : 0 < b) (ha : a ≤ 9223372036854775807) : YR P E o (.int .i64 ((a / b : Nat) : Int)) := by
  subst hp; subst hq
  have h := yr_quo (P := P) ho hx hy (by omega) (wrap_quo (by omega))
  rwa [tdivW] at h
end
end Go.Proofs.Ytacjcomjnabmhaa
