/- Own texts of this claim, merged: Oe, Of, We, Og, Mx, My, Oa, Oh, Oi, Oj, Ok, WLv, Pm, Vq. -/
import Derived.KernelRfl
import Derived.Deep.Slices
import Derived.Test.YtfkblhlkeglilaaKFnLines6
namespace Go.Proofs.Ytfkblhlkeglilaa
open Go.RowKit R3 Mt
set_option maxRecDepth 100000
def imK : Nat → Nat
  | 0 => 4620693217682128896
  | i + 1 => fop .sub .f64 (imK i) 4607182418800017408
def imP (u : Nat) : Nat → Nat
  | 0 => 4607182418800017408
  | i + 1 => fop .sub .f64 4607182418800017408 (fop .quo .f64 (fop .mul .f64 u (imP u i)) (fop .mul .f64 (fop .mul .f64 4611686018427387904 (imK i)) (fop .add .f64 (fop .mul .f64 4611686018427387904 (imK i)) 4607182418800017408)))
def im0 (y : Nat) (i : Int) : Nat := fop .sub .f64 y (FloatKind.f64.nearest i)
def im1 (y : Nat) (i : Int) : Nat := if fcmp .geq .f64 (im0 y i) 4602678819172646912 = true then fop .sub .f64 (im0 y i) 4602678819172646912 else im0 y i
def im2 (y : Nat) (i : Int) : Nat := if fcmp .gtr .f64 (im1 y i) 4598175219545276416 = true then fop .sub .f64 4602678819172646912 (im1 y i) else im1 y i
def imZ (y : Nat) (i : Int) : Nat := fop .mul .f64 (im2 y i) 4618760256179416344
def imR (y : Nat) (i : Int) : Nat := if fcmp .geq .f64 (im0 y i) 4602678819172646912 = true then fneg .f64 (fop .mul .f64 (imZ y i) (imP (fop .mul .f64 (imZ y i) (imZ y i)) 8)) else fop .mul .f64 (imZ y i) (imP (fop .mul .f64 (imZ y i) (imZ y i)) 8)
def imW (x : Nat) (i : Int) : Nat := fconv .f64 .f32 (imR (fconv .f32 .f64 x) i)
def imOk (x : Nat) (i : Int) : Bool := fin x && !(fcmp .geq .f64 (fabs .f64 (fconv .f32 .f64 x)) 4841369599423283200) && (floatToIntVal .f64 (fconv .f32 .f64 x) .i64 == some i) && !(fcmp .lss .f64 (im0 (fconv .f32 .f64 x) i) 0) && !(fover .f64 .f32 (imR (fconv .f32 .f64 x) i))
theorem imK_geq : ∀ i : Fin 9, fcmp .geq .f64 (imK i) 4607182418800017408 = decide (i.val < 8) := by decide +kernel
def icQ (k : Nat) : Nat := fop .quo .f32 (FloatKind.f32.nearest (k : Int)) (FloatKind.f32.nearest 12)
def icI (k : Nat) : Int := if 9 ≤ k then 1 else 0
theorem ic_ok : ∀ k : Fin 12, (imOk (icQ k) 0 && imOk (fop .add .f32 (icQ k) 1048576000) (icI k)) = true := by decide +kernel
def icP (k : Nat) : V3 := (fop .mul .f32 1065353216 (imW (fop .add .f32 (icQ k) 1048576000) (icI k)), fop .mul .f32 1065353216 (imW (icQ k) 0), 0)
def icL (n : Nat) : List V3 := (List.range n).map icP
/-- A word is a whole number of 2^-30. -/
def vj (x : Nat) (v : Int) : Bool := decide (x < 2 ^ FloatKind.f32.format.width) && decide (rng FloatKind.f32.format x < FloatKind.f32.format.infRung) && decide (sval FloatKind.f32.format x = v * 2 ^ 119)
theorem vj_qv {x : Nat} {v : Int} (h : vj x v = true) : qv x ((v : Rat) * (1 / io)) := by
  unfold vj at h
  simp only [Bool.and_eq_true, decide_eq_true_eq] at h
  refine ⟨_, ⟨h.1.1, h.1.2, h.2⟩, ?_⟩
  have e : (2 : Int) ^ 119 * 1073741824 = 16777216 * UU := by decide +kernel
  have e2 := congrArg (fun z : Int => (z : Rat)) e
  simp only [Rat.intCast_mul] at e2
  have e3 : WW = (((2 : Int) ^ 119 : Int) : Rat) * 1073741824 := by
    unfold WW
    rw [← e, Rat.intCast_mul]; rfl
  rw [Rat.intCast_mul, e3]
  have e4 : io = 1073741824 := rfl
  rw [e4]
  generalize (((2 : Int) ^ 119 : Int) : Rat) = u
  grind
theorem ic_tab : ∀ k : Fin 12, (vj (icP k).1 (eds.getD k e00).ax && vj (icP k).2.1 (eds.getD k e00).ay && decide ((icP k).2.2 = 0)) = true := by decide +kernel
theorem ed_next : ∀ k : Fin 12, (eds.getD k e00).bx = (eds.getD ((k.val + 1) % 12) e00).ax ∧ (eds.getD k e00).by' = (eds.getD ((k.val + 1) % 12) e00).ay := by decide +kernel
theorem icL_length {n : Nat} : (icL n).length = n := by simp [icL]
theorem icL_get {k : Nat} (hk : k < 12) : (icL 12).getD k z3 = icP k := by simp [icL, List.getD, hk]
theorem ic_ring : Ring12 (icL 12) := by
  have key : ∀ k, k < 12 → qv3 (icP k) (((eds.getD k e00).ax : Rat) * (1 / io)) (((eds.getD k e00).ay : Rat) * (1 / io)) (0 * (1 / io)) := by
    intro k hk
    have h := ic_tab ⟨k, hk⟩
    simp only [Bool.and_eq_true, decide_eq_true_eq] at h
    refine ⟨vj_qv h.1.1, vj_qv h.1.2, ?_⟩
    rw [h.2, Rat.zero_mul]
    exact qv_zero
  refine ⟨icL_length, fun k hk => ?_, fun k hk => ?_⟩
  · have e : segA (icL 12, true, 1065353216) k = icP k := icL_get hk
    rw [e]
    exact key k hk
  · have e : segB (icL 12, true, 1065353216) k = icP ((k + 1) % 12) := by
      show (icL 12).getD ((k + 1) % (icL 12).length) z3 = _
      rw [icL_length]
      exact icL_get (Nat.mod_lt _ (by decide))
    have h := ed_next ⟨k, hk⟩
    rw [e]
    show qv3 _ (((eds.getD k e00).bx : Rat) * (1 / io)) (((eds.getD k e00).by' : Rat) * (1 / io)) (0 * (1 / io))
    rw [h.1, h.2]
    exact key _ (Nat.mod_lt _ (by decide))
theorem imK_lt {i : Nat} (hi : i ≤ 8) (h : fcmp .geq .f64 (imK i) 4607182418800017408 = true) : i < 8 := by
  have := imK_geq ⟨i, by omega⟩
  rw [h] at this
  exact of_decide_eq_true this.symm
theorem imK_ge {i : Nat} (hi : i ≤ 8) (h : fcmp .geq .f64 (imK i) 4607182418800017408 = false) : i = 8 := by
  have := imK_geq ⟨i, by omega⟩
  rw [h] at this
  have h8 : ¬ i < 8 := of_decide_eq_false this.symm
  omega
theorem im_is {x : Nat} {i : Int} (h : imOk x i = true) : fin x = true ∧ fcmp .geq .f64 (fabs .f64 (fconv .f32 .f64 x)) 4841369599423283200 = false ∧ floatToIntVal .f64 (fconv .f32 .f64 x) .i64 = some i ∧ fcmp .lss .f64 (fop .sub .f64 (fconv .f32 .f64 x) (FloatKind.f64.nearest i)) 0 = false ∧ fover .f64 .f32 (imR (fconv .f32 .f64 x) i) = false := by
  unfold imOk at h
  simp only [Bool.and_eq_true, Bool.not_eq_true', beq_iff_eq] at h
  exact ⟨h.1.1.1.1, h.1.1.1.2, h.1.1.2, h.1.2, h.2⟩
section
variable {y : Nat} {i : Int}
theorem im_r11 (h1 : fcmp .geq .f64 (fop .sub .f64 y (FloatKind.f64.nearest i)) 4602678819172646912 = true) : im1 y i = fop .sub .f64 (fop .sub .f64 y (FloatKind.f64.nearest i)) 4602678819172646912 := by
  unfold im1 im0; rw [if_pos h1]
theorem im_r10 (h1 : fcmp .geq .f64 (fop .sub .f64 y (FloatKind.f64.nearest i)) 4602678819172646912 = false) : im1 y i = fop .sub .f64 y (FloatKind.f64.nearest i) := by
  unfold im1 im0; rw [if_neg (by rw [h1]; decide)]
theorem im_r2 {z : Nat} (h : im1 y i = z) {b : Bool} (h2 : fcmp .gtr .f64 z 4598175219545276416 = b) : im2 y i = if b = true then fop .sub .f64 4602678819172646912 z else z := by
  unfold im2; rw [h, h2]
theorem im_r3 {b : Bool} (h1 : fcmp .geq .f64 (fop .sub .f64 y (FloatKind.f64.nearest i)) 4602678819172646912 = b) {z : Nat} (h : im2 y i = z) : imR y i = if b = true then fneg .f64 (fop .mul .f64 (fop .mul .f64 z 4618760256179416344) (imP (fop .mul .f64 (fop .mul .f64 z 4618760256179416344) (fop .mul .f64 z 4618760256179416344)) 8)) else fop .mul .f64 (fop .mul .f64 z 4618760256179416344) (imP (fop .mul .f64 (fop .mul .f64 z 4618760256179416344) (fop .mul .f64 z 4618760256179416344)) 8) := by
  unfold imR imZ
  rw [h]
  unfold im0
  rw [h1]
end
theorem ic_ok1 {k : Nat} (hk : k < 12) : imOk (fop .add .f32 (fop .quo .f32 (FloatKind.f32.nearest (k : Int)) (FloatKind.f32.nearest 12)) 1048576000) (icI k) = true := by
  have := ic_ok ⟨k, hk⟩
  rw [Bool.and_eq_true] at this
  exact this.2
theorem ic_ok2 {k : Nat} (hk : k < 12) : imOk (fop .quo .f32 (FloatKind.f32.nearest (k : Int)) (FloatKind.f32.nearest 12)) 0 = true := by
  have := ic_ok ⟨k, hk⟩
  rw [Bool.and_eq_true] at this
  exact this.1
theorem icL_vl {n : Nat} : vl (icL n) ++ [.float .f32 (icP n).1, .float .f32 (icP n).2.1, .float .f32 (icP n).2.2] = vl (icL (n + 1)) := by rw [vl_snoc]; simp [icL, List.range_succ]
theorem ic_fin : ∀ k : Fin 12, fin3 (icP k) = true := by decide +kernel
theorem ic_wire : wireOk (icL 12, true, 1065353216) = true := by
  have hv : (icL 12).all fin3 = true := vall_getD.2 fun k hk => by
    rw [icL_length] at hk
    rw [icL_get hk]
    exact ic_fin ⟨k, hk⟩
  unfold wireOk
  rw [hv]
  have e : (icL 12).length = 12 := icL_length
  simp only [e]
  decide +kernel
theorem ic_wires : wiresOk (RW (icL 12)) = true := by
  unfold wiresOk RW
  simp only [List.all_cons, List.all_nil, ic_wire, Bool.and_true]
  decide
end Go.Proofs.Ytfkblhlkeglilaa

namespace Go.Proofs.Ytfkblhlkeglilaa
open Go.RowKit
set_option maxRecDepth 20000
def rv (bs : List Int) : Nat → List Nat
  | 0 => [1065353216, 1056964608, 3196059648]
  | k + 1 => if k < bs.length then (rv bs k).set k (qw ((bs.getD k 0).toNat % 17)) else rv bs k
theorem rv_t {bs : List Int} {k : Nat} (h : k < bs.length) : rv bs (k + 1) = (rv bs k).set k (qw ((bs.getD k 0).toNat % 17)) := by
  show (if k < bs.length then _ else _) = _
  rw [if_pos h]
theorem rv_f {bs : List Int} {k : Nat} (h : ¬ k < bs.length) : rv bs (k + 1) = rv bs k := by
  show (if k < bs.length then _ else _) = _
  rw [if_neg h]
theorem rv_0 : qw 12 = 1065353216 ∧ qw 10 = 1056964608 ∧ qw 7 = 3196059648 := by decide +kernel
theorem rv_ok (bs : List Int) : ∀ k, (rv bs k).length = 3 ∧ ∀ y ∈ rv bs k, ∃ j, j < 17 ∧ y = qw j
  | 0 => ⟨rfl, fun y hy => by
    obtain ⟨h1, h2, h3⟩ := rv_0
    have hy2 : y = 1065353216 ∨ y = 1056964608 ∨ y = 3196059648 := by simpa [rv] using hy
    rcases hy2 with rfl | rfl | rfl
    · exact ⟨12, by decide, h1.symm⟩
    · exact ⟨10, by decide, h2.symm⟩
    · exact ⟨7, by decide, h3.symm⟩⟩
  | k + 1 => by
    obtain ⟨h1, h2⟩ := rv_ok bs k
    by_cases h : k < bs.length
    · rw [rv_t h]
      refine ⟨by rw [List.length_set]; exact h1, fun y hy => ?_⟩
      rcases List.mem_or_eq_of_mem_set hy with g | g
      · exact h2 y g
      · exact ⟨_, Nat.mod_lt _ (by decide), g⟩
    · rw [rv_f h]
      exact ⟨h1, h2⟩
theorem rv_at (bs : List Int) (k : Nat) {i : Nat} (hi : i < 3) : ∃ j, j < 17 ∧ (rv bs k).getD i 0 = qw j := by
  obtain ⟨h1, h2⟩ := rv_ok bs k
  refine h2 _ ?_
  rw [List.getD_eq_getElem?_getD, List.getElem?_eq_getElem (by omega)]
  exact List.getElem_mem _
end Go.Proofs.Ytfkblhlkeglilaa

namespace Go.Proofs.Ytfkblhlkeglilaa
open Go.RowKit
set_option maxRecDepth 20000
theorem er_sum64 (t : Bool) {x y c : Nat} {X Y : Int} (hc : c ≤ 1900) (hx : apd x X) (hy : apd y Y) (h : (X + (if t then -Y else Y)).natAbs ≤ 2 ^ 53 * 2 ^ c) :
    ∃ Z, apd (((((FloatKind.f64.format.read x).sum (if t then (FloatKind.f64.format.read y).opposite else FloatKind.f64.format.read y)).map FloatKind.f64.format.write).getD (qn .f64))) Z ∧ X + (if t then -Y else Y) - ((2 ^ c : Nat) : Int) ≤ Z ∧ Z ≤ X + (if t then -Y else Y) + ((2 ^ c : Nat) : Int) := by
  obtain ⟨s, M, q, e1, e2, e3, e4⟩ := sum_units hx.1 hy.1 t
  rw [hx.2, hy.2] at e2 e3 e4
  generalize X + (if t then -Y else Y) = V at *
  have hn : M * 2 ^ q ≤ 2 ^ 53 * 2 ^ c * 2 ^ 0 := by rw [e2, Nat.pow_zero, Nat.mul_one]; exact h
  obtain ⟨r, r1, r2, r3, r4⟩ := er_core64 s (a := 0) (b := q) (e := FloatKind.f64.format.leastPlace + (q : Int)) hc (by omega) hn
  rw [Nat.pow_zero, Nat.mul_one, Nat.mul_one, e2] at r3 r4
  have hw : (((FloatKind.f64.format.read x).sum (if t then (FloatKind.f64.format.read y).opposite else FloatKind.f64.format.read y)).map FloatKind.f64.format.write).getD (qn .f64) = FloatKind.f64.format.word s r := by
    rw [e1]; exact r1
  rw [hw]
  exact ⟨_, apd_word s r2, er_sign rfl e3 e4 r3 r4⟩
theorem er_mul64 {x y c P : Nat} {X Y : Int} (hP : P = 1074) (hc : c ≤ 1900) (hx : apd x X) (hy : apd y Y) (h : (X * Y).natAbs ≤ 2 ^ 53 * 2 ^ c * 2 ^ P) :
    ∃ Z, apd (fop .mul .f64 x y) Z ∧ X * Y - ((2 ^ c : Nat) : Int) * ((2 ^ P : Nat) : Int) ≤ Z * ((2 ^ P : Nat) : Int) ∧ Z * ((2 ^ P : Nat) : Int) ≤ X * Y + ((2 ^ c : Nat) : Int) * ((2 ^ P : Nat) : Int) := by
  obtain ⟨m, e, a1, a2⟩ := read_number FloatKind.f64.format hx.1
  obtain ⟨n, d, b1, b2⟩ := read_number FloatKind.f64.format hy.1
  rw [hx.units] at a2
  rw [hy.units] at b2
  have hxy : (X * Y).natAbs = m * n * 2 ^ (e + d) := by rw [Int.natAbs_mul, ← a2, ← b2, Nat.pow_add]; simp only [Nat.mul_assoc, Nat.mul_left_comm]
  obtain ⟨r, r1, r2, r3, r4⟩ := er_core64 (sgn FloatKind.f64.format x ^^ sgn FloatKind.f64.format y) (m := m * n) (a := P) (b := e + d) (c := c) (e := FloatKind.f64.format.leastPlace + (e : Int) + (FloatKind.f64.format.leastPlace + (d : Int))) hc (by rw [lp64]; omega) (by rw [← hxy]; exact h)
  have hw : fop .mul .f64 x y = FloatKind.f64.format.word (sgn FloatKind.f64.format x ^^ sgn FloatKind.f64.format y) r := by
    unfold fop floatBits Ieee.Format.mul
    simp only [a1, b1, Ieee.Datum.product, Option.map_some, Option.getD_some]
    exact r1
  rw [hw]
  refine ⟨_, apd_word _ r2, ?_⟩
  obtain ⟨s1, s2⟩ := sgn_xorD hx hy
  have := er_sign (V := X * Y) hxy s1 s2 r3 r4
  have e9 : (if (sgn FloatKind.f64.format x ^^ sgn FloatKind.f64.format y) = true then -(units FloatKind.f64.format r : Int) else (units FloatKind.f64.format r : Int)) * ((2 ^ P : Nat) : Int) =
      (if (sgn FloatKind.f64.format x ^^ sgn FloatKind.f64.format y) = true then -((units FloatKind.f64.format r * 2 ^ P : Nat) : Int) else ((units FloatKind.f64.format r * 2 ^ P : Nat) : Int)) := by
    split <;> simp only [Int.natCast_mul, Int.neg_mul]
  rw [e9, ← Int.natCast_mul]
  exact this
attribute [local irreducible] D9 D7 UU WW W9
section
variable {x y : Nat} {p q K : Rat} {k : Nat}
theorem dv_pow {K : Rat} {k P c : Nat} (hP : P = 1074) (hK : pw2 k K) (hc : c + 53 = P + k) : ((2 ^ 53 * 2 ^ c : Nat) : Rat) = K * W9 ∧ ((2 ^ c : Nat) : Rat) = K / 9007199254740992 * W9 := by
  have e1 := W9_pow hP
  have e2 : ((2 ^ 53 * 2 ^ c : Nat) : Rat) = K * W9 := by
    rw [hK, e1, ← Rat.natCast_mul, ← Nat.pow_add, ← Nat.pow_add]
    congr 2; omega
  refine ⟨e2, ?_⟩
  rw [Rat.natCast_mul] at e2
  have : ((2 ^ 53 : Nat) : Rat) = 9007199254740992 := by rfl
  rw [this] at e2
  grind
theorem dv_add (hK : pw2 k K) (hk : k ≤ 70) (hx : dv x p) (hy : dv y q) (h1 : -K ≤ p + q) (h2 : p + q ≤ K) : ∃ z, dv (fop .add .f64 x y) z ∧ p + q - K / 9007199254740992 ≤ z ∧ z ≤ p + q + K / 9007199254740992 := by
  obtain ⟨X, hX, eX⟩ := hx
  obtain ⟨Y, hY, eY⟩ := hy
  obtain ⟨P, hP⟩ : ∃ P : Nat, P = 1074 := ⟨_, rfl⟩
  have hp := W9_pos
  obtain ⟨c, hc⟩ : ∃ c : Nat, c + 53 = P + k := ⟨P + k - 53, by omega⟩
  obtain ⟨e1, e2⟩ := dv_pow hP hK hc
  have eS : ((X + Y : Int) : Rat) = (p + q) * W9 := by rw [Rat.intCast_add, eX, eY]; grind
  obtain ⟨Z, z1, z2, z3⟩ := er_sum64 false (c := c) (by omega) hX hY (nat_of_q (by
    simp only [Bool.false_eq_true, if_false]
    rw [e1]
    refine abs_int (c := K * W9) ?_ ?_ rfl
    · rw [eS]
      have := Rat.mul_le_mul_of_nonneg_right h1 (Rat.le_of_lt hp)
      grind
    · rw [eS]
      exact Rat.mul_le_mul_of_nonneg_right h2 (Rat.le_of_lt hp)))
  simp only [Bool.false_eq_true, if_false] at z1 z2 z3
  obtain ⟨z, hz⟩ : ∃ z : Rat, (Z : Rat) = z * W9 := ⟨(Z : Rat) / W9, by grind⟩
  have c1 : (((2 ^ c : Nat) : Int) : Rat) = K / 9007199254740992 * W9 := e2
  refine ⟨z, ⟨Z, z1, hz⟩, ?_, ?_⟩
  · have := (Rat.intCast_le_intCast).2 z2
    rw [Rat.intCast_sub, eS, c1, hz] at this
    exact Rat.le_of_mul_le_mul_right (c := W9) (by grind) hp
  · have := (Rat.intCast_le_intCast).2 z3
    rw [Rat.intCast_add (X + Y), eS, c1, hz] at this
    exact Rat.le_of_mul_le_mul_right (c := W9) (by grind) hp
theorem dv_mul2 (hK : pw2 k K) (hk : k ≤ 70) (hx : dv x p) (hy : dv y q) (h1 : -K ≤ p * q) (h2 : p * q ≤ K) : ∃ z, dv (fop .mul .f64 x y) z ∧ p * q - K / 9007199254740992 ≤ z ∧ z ≤ p * q + K / 9007199254740992 := by
  obtain ⟨X, hX, eX⟩ := hx
  obtain ⟨Y, hY, eY⟩ := hy
  obtain ⟨P, hP⟩ : ∃ P : Nat, P = 1074 := ⟨_, rfl⟩
  have hp := W9_pos
  have hpp := Rat.mul_pos hp hp
  obtain ⟨c, hc⟩ : ∃ c : Nat, c + 53 = P + k := ⟨P + k - 53, by omega⟩
  obtain ⟨e1, e2⟩ := dv_pow hP hK hc
  have e3 := W9_pow hP
  have eS : ((X * Y : Int) : Rat) = p * q * (W9 * W9) := by rw [Rat.intCast_mul, eX, eY]; grind
  obtain ⟨Z, z1, z2, z3⟩ := er_mul64 hP (c := c) (by omega) hX hY (nat_of_q (by
    rw [Rat.natCast_mul, e1, ← e3]
    refine abs_int (c := K * W9 * W9) ?_ ?_ rfl
    · rw [eS]
      have := Rat.mul_le_mul_of_nonneg_right h1 (Rat.le_of_lt hpp)
      grind
    · rw [eS]
      have := Rat.mul_le_mul_of_nonneg_right h2 (Rat.le_of_lt hpp)
      grind))
  obtain ⟨z, hz⟩ : ∃ z : Rat, (Z : Rat) = z * W9 := ⟨(Z : Rat) / W9, by grind⟩
  have c1 : (((2 ^ c : Nat) : Int) : Rat) = K / 9007199254740992 * W9 := e2
  have c2 : (((2 ^ P : Nat) : Int) : Rat) = W9 := e3.symm
  refine ⟨z, ⟨Z, z1, hz⟩, ?_, ?_⟩
  · have := (Rat.intCast_le_intCast).2 z2
    rw [Rat.intCast_sub, eS, Rat.intCast_mul, Rat.intCast_mul, c1, c2, hz] at this
    exact Rat.le_of_mul_le_mul_right (c := W9 * W9) (by grind) hpp
  · have := (Rat.intCast_le_intCast).2 z3
    rw [Rat.intCast_add, eS, Rat.intCast_mul, Rat.intCast_mul, c1, c2, hz] at this
    exact Rat.le_of_mul_le_mul_right (c := W9 * W9) (by grind) hpp
theorem dv_ngt (hx : dv x p) (hy : dv y q) (h : p ≤ q) : fcmp .gtr .f64 x y = false := by
  obtain ⟨X, hX, eX⟩ := hx
  obtain ⟨Y, hY, eY⟩ := hy
  show (FloatKind.f64.format.order x y == some .gt) = false
  have h9 : X ≤ Y := by
    rw [← Rat.intCast_le_intCast, eX, eY]
    exact Rat.mul_le_mul_of_nonneg_right h (Rat.le_of_lt W9_pos)
  rw [order_number hX.1 hY.1, hX.2, hY.2]
  rcases Int.lt_trichotomy X Y with h | h | h
  · rw [Int.compare_eq_lt.2 h]; rfl
  · rw [compare_eq.2 h]; rfl
  · omega
end
end Go.Proofs.Ytfkblhlkeglilaa

namespace Go.Proofs.Ytfkblhlkeglilaa
open Go.RowKit R3 Mt
set_option maxRecDepth 20000
theorem ln_m1 : dv 4562254508917369340 (1152921504606847 / 1152921504606846976) := ⟨1152921504606847 * 2 ^ 1014, ⟨by decide +kernel, by decide +kernel⟩, by decide +kernel⟩
theorem ln_m2 : dv 4607186922399644778 (4508103226997866 / 4503599627370496) := ⟨4508103226997866 * 2 ^ 1022, ⟨by decide +kernel, by decide +kernel⟩, by decide +kernel⟩
theorem ln_mh : dv 4602678819172646912 (1 / 2) := ⟨1 * 2 ^ 1073, ⟨by decide +kernel, by decide +kernel⟩, by decide +kernel⟩
theorem ln_hf : qv 1056964608 (1 / 2) := ⟨8388608 * UU, ⟨by decide +kernel, by decide +kernel, by decide +kernel⟩, by
  unfold WW
  rw [Rat.intCast_mul]
  have e : ((8388608 : Int) : Rat) = 8388608 := rfl
  rw [e]; grind⟩
attribute [local irreducible] D9 D7 UU WW W9
section
variable {x y : Nat} {p q B K : Rat} {k : Nat}
theorem ln_nn {x r : Nat} {z : Rat} (hz : qv x z) (h : x = FloatKind.f32.format.word false r) (hr : r ≤ FloatKind.f32.format.infRung) : 0 ≤ z := by
  obtain ⟨Z, hZ, eZ⟩ := hz
  have hsg : sgn FloatKind.f32.format x = false := by rw [h]; exact (rng_word .f32 false hr).2
  have hZ0 := hZ.sgn.2 hsg
  have h0 : (0 : Rat) ≤ (Z : Rat) := Rat.intCast_le_intCast.2 hZ0
  rw [eZ] at h0
  exact Rat.le_of_mul_le_mul_right (c := WW) (by rw [Rat.zero_mul]; exact h0) WW_pos
theorem ln_nw (M : Nat) (e : Int) : ∃ r, FloatKind.f32.format.nearest false M e = FloatKind.f32.format.word false r ∧ r ≤ FloatKind.f32.format.infRung := by
  unfold Ieee.Format.nearest
  split
  · exact ⟨0, rfl, Nat.zero_le _⟩
  · exact ⟨_, rfl, Nat.min_le_right _ _⟩
theorem ln_sq (hx : qv x p) (h : Rg (p * p) B) (hB : B ≤ 1000000000000000000) : ∃ z, qv (fop .mul .f32 x x) z ∧ 0 ≤ z ∧ Rg (z - p * p) ((1 + 2 * B) * u24) := by
  obtain ⟨z, hz, hr⟩ := rd_mul hx hx h hB
  refine ⟨z, hz, ?_, hr⟩
  obtain ⟨X, hX, _⟩ := hx
  obtain ⟨m, e, a1, a2⟩ := read_number FloatKind.f32.format hX.2.1
  obtain ⟨r, r1, r2⟩ := ln_nw (m * m) (FloatKind.f32.format.leastPlace + (e : Int) + (FloatKind.f32.format.leastPlace + (e : Int)))
  refine ln_nn hz ?_ r2
  rw [← r1]
  unfold fop floatBits Ieee.Format.mul
  simp only [a1, Ieee.Datum.product, Option.map_some, Option.getD_some, Bool.xor_self]
  rfl
theorem ln_add (hx : qv x p) (hy : qv y q) (hp : 0 ≤ p) (hq : 0 ≤ q) (h : Rg (p + q) B) (hB : B ≤ 1000000000000000000) : ∃ z, qv (fop .add .f32 x y) z ∧ 0 ≤ z ∧ Rg (z - (p + q)) ((1 + 2 * B) * u24) := by
  obtain ⟨z, hz, hr⟩ := rd_add hx hy h hB
  by_cases he : p + q = 0
  · have p0 : p = 0 := by grind
    have q0 : q = 0 := by grind
    subst p0; subst q0
    have hz0 := qv_add00 hx hy
    refine ⟨0, hz0, Rat.le_refl, ?_⟩
    have : (0 : Rat) - (0 + 0) = 0 := by decide +kernel
    rw [this]
    have hB0 := h.nn
    have := Rat.mul_nonneg (show 0 ≤ 1 + 2 * B by grind) (show 0 ≤ u24 by decide +kernel)
    exact ⟨by grind, this⟩
  · refine ⟨z, hz, ?_, hr⟩
    obtain ⟨X, hX, eX⟩ := hx
    obtain ⟨Y, hY, eY⟩ := hy
    obtain ⟨s, M, k, e1, e2, e3, e4⟩ := sum_units hX.2.1 hY.2.1 false
    simp only [Bool.false_eq_true, if_false] at e1 e2 e3 e4
    rw [hX.2.2, hY.2.2] at e3 e4
    have hXY : 0 < X + Y := by
      rw [← Rat.intCast_lt_intCast, Rat.intCast_add, eX, eY]
      have hpq : 0 < p + q := by grind
      have := Rat.mul_pos hpq WW_pos
      have e0 : ((0 : Int) : Rat) = 0 := rfl
      rw [e0]
      grind
    have hs : s = false := by
      cases s with
      | false => rfl
      | true => have := e3 rfl; omega
    subst hs
    obtain ⟨r, r1, r2⟩ := ln_nw M (FloatKind.f32.format.leastPlace + (k : Int))
    refine ln_nn hz ?_ r2
    rw [← r1]
    have e0 : fop .add .f32 x y = (((FloatKind.f32.format.read x).sum (FloatKind.f32.format.read y)).map FloatKind.f32.format.write).getD (qn .f32) := by unfold fop; rfl
    rw [e0, e1]
    rfl
theorem ln_sub64 (hK : pw2 k K) (hk : k ≤ 70) (hx : dv x p) (hy : dv y q) (h1 : -K ≤ p - q) (h2 : p - q ≤ K) : ∃ z, dv (fop .sub .f64 x y) z ∧ p - q - K / 9007199254740992 ≤ z ∧ z ≤ p - q + K / 9007199254740992 := by
  obtain ⟨X, hX, eX⟩ := hx
  obtain ⟨Y, hY, eY⟩ := hy
  obtain ⟨P, hP⟩ : ∃ P : Nat, P = 1074 := ⟨_, rfl⟩
  have hp := W9_pos
  obtain ⟨c, hc⟩ : ∃ c : Nat, c + 53 = P + k := ⟨P + k - 53, by omega⟩
  obtain ⟨e1, e2⟩ := dv_pow hP hK hc
  have eS : ((X + -Y : Int) : Rat) = (p - q) * W9 := by rw [Rat.intCast_add, Rat.intCast_neg, eX, eY]; grind
  obtain ⟨Z, z1, z2, z3⟩ := er_sum64 true (c := c) (by omega) hX hY (nat_of_q (by
    simp only [if_true]
    rw [e1]
    refine abs_int (c := K * W9) ?_ ?_ rfl
    · rw [eS]
      have := Rat.mul_le_mul_of_nonneg_right h1 (Rat.le_of_lt hp)
      grind
    · rw [eS]
      exact Rat.mul_le_mul_of_nonneg_right h2 (Rat.le_of_lt hp)))
  simp only [if_true] at z1 z2 z3
  obtain ⟨z, hz⟩ : ∃ z : Rat, (Z : Rat) = z * W9 := ⟨(Z : Rat) / W9, by grind⟩
  have c1 : (((2 ^ c : Nat) : Int) : Rat) = K / 9007199254740992 * W9 := e2
  refine ⟨z, ⟨Z, z1, hz⟩, ?_, ?_⟩
  · have := (Rat.intCast_le_intCast).2 z2
    rw [Rat.intCast_sub, eS, c1, hz] at this
    exact Rat.le_of_mul_le_mul_right (c := W9) (by grind) hp
  · have := (Rat.intCast_le_intCast).2 z3
    rw [Rat.intCast_add (X + -Y), eS, c1, hz] at this
    exact Rat.le_of_mul_le_mul_right (c := W9) (by grind) hp
theorem ln_nan {y : Nat} {p : Rat} (h : dv y p) : fnan .f64 y = false := by
  obtain ⟨X, hX, _⟩ := h
  obtain ⟨m, e, a1, _⟩ := read_number FloatKind.f64.format hX.1
  show (FloatKind.f64.format.read y).isNaN = false
  rw [a1]; rfl
theorem ln_gap (hx : dv x p) (hy : dv y q) (hp : Rg p 16) (hq : Rg q 16) (h : Rg (p - q) (9 / 10000)) : fnan .f64 (fop .sub .f64 x y) = false ∧ fnan .f64 (fop .sub .f64 y x) = false ∧ fcmp .gtr .f64 (gap64 x y) 4562254508917369340 = false := by
  obtain ⟨p1, p2⟩ := hp
  obtain ⟨q1, q2⟩ := hq
  obtain ⟨h1, h2⟩ := h
  obtain ⟨a, a1, a2, a3⟩ := ln_sub64 (k := 5) (K := 32) (show (32 : Rat) = ((2 ^ 5 : Nat) : Rat) by decide +kernel) (by decide) hx hy (by grind) (by grind)
  obtain ⟨b, b1, b2, b3⟩ := ln_sub64 (k := 5) (K := 32) (show (32 : Rat) = ((2 ^ 5 : Nat) : Rat) by decide +kernel) (by decide) hy hx (by grind) (by grind)
  have na := ln_nan a1
  have nb := ln_nan b1
  refine ⟨na, nb, ?_⟩
  unfold gap64
  have e9 : (91 / 100000 : Rat) ≤ 1152921504606847 / 1152921504606846976 := by decide +kernel
  rcases fmx_or .f64 na nb with e | e
  · rw [e]; exact dv_ngt a1 ln_m1 (by grind)
  · rw [e]; exact dv_ngt b1 ln_m1 (by grind)
end
attribute [local irreducible] segF fop dirI
section
variable {A B : V3} {a b d v : R3} {σ : Rat}
theorem df_sub (hA : qv3 A a.x a.y a.z) (hB : qv3 B b.x b.y b.z) (hv : v = a.sub b) (hn : nb v 16) : Df (sub3 A B) v := by
  have hc := nb_x hn
  have big : ∀ {t : Rat}, Rg t 16 → Rg t 1000000000000000000 := fun h => h.mono (by decide +kernel)
  have ex : a.x - b.x = v.x := by rw [hv]; rfl
  have ey : a.y - b.y = v.y := by rw [hv]; rfl
  have ez : a.z - b.z = v.z := by rw [hv]; rfl
  obtain ⟨u, u1, u2⟩ := rl_sub hA.x hB.x (by rw [ex]; exact big hc.1)
  obtain ⟨t, v1, v2⟩ := rl_sub hA.y hB.y (by rw [ey]; exact big hc.2.1)
  obtain ⟨w, w1, w2⟩ := rl_sub hA.z hB.z (by rw [ez]; exact big hc.2.2)
  rw [ex] at u2
  rw [ey] at v2
  rw [ez] at w2
  exact ⟨⟨u, t, w, ⟨u1, v1, w1⟩, u2, v2, w2⟩, ab_le hc.1, ab_le hc.2.1, ab_le hc.2.2⟩
theorem nb15 (h : v.dot v ≤ 250) : nb v 16 := ⟨by decide +kernel, Rat.le_trans h (by decide +kernel)⟩
theorem long_sub (hA : qv3 A a.x a.y a.z) (hB : qv3 B b.x b.y b.z) (hv : v = a.sub b) (h0 : 1 / 1000 ≤ v.dot v) (h9 : v.dot v ≤ 250) : ∃ x, qv (long3 (sub3 A B)) x ∧ 0 < x ∧ Rg (x * x - v.dot v) (7011 / 1000 * u24 * v.dot v) :=
  long_rel (df_sub hA hB hv (nb15 h9)) h0 h9
/-- The length of any difference is a number. -/
theorem long_any (hA : qv3 A a.x a.y a.z) (hB : qv3 B b.x b.y b.z) (hv : v = a.sub b) {K : Rat} (hn : nb v K) (K0 : 1 / 4 ≤ K) (K9 : K ≤ 15) : ∃ x, qv (long3 (sub3 A B)) x ∧ Rg x (K * (1000001 / 1000000)) := by
  have h9 := hn.2
  have k9 := rsq_mono hn.1 K9
  rcases (Rat.le_total : 1 / 1000 ≤ v.dot v ∨ v.dot v ≤ 1 / 1000) with h | h
  · obtain ⟨x, x1, x2, x3⟩ := long_sub hA hB hv h (by grind)
    have hu : u24 = 1 / 16777216 := rfl
    rw [hu] at x3
    obtain ⟨_, x4⟩ := x3
    have : x ≤ K * (1000001 / 1000000) := rsq_le (by grind) (by grind)
    exact ⟨x, x1, ⟨by grind, this⟩⟩
  · clear hn
    have hn : nb v (1 / 30) := ⟨by decide +kernel, Rat.le_trans h (by decide +kernel)⟩
    obtain ⟨⟨u, s, t, hq, e1, e2, e3⟩, _⟩ := df_sub hA hB hv (hn.mono (by decide +kernel))
    have hc := nb_x hn
    have ht : tn ≤ 1 / 1000000 := by decide +kernel
    have hu : u24 = 1 / 16777216 := rfl
    have sm : ∀ {p w : Rat}, Rg (p - w) (u24 * ab w + tn) → Rg w (1 / 30) → Rg p (1 / 20) := by
      intro p w h1 h2
      have h3 := ab_le h2
      obtain ⟨g1, g2⟩ := h1
      obtain ⟨f1, f2⟩ := h2
      have := ab_nn w
      rw [hu] at g1 g2
      constructor <;> grind
    have hx := sm e1 hc.1
    have hy := sm e2 hc.2.1
    have hz := sm e3 hc.2.2
    have key : ∀ {w : Rat}, Rg w (1 / 20) → Rg (w * w) (1 / 100) := fun hd => (rmul hd hd).mono (by decide +kernel)
    obtain ⟨a1, b1, c1, d1⟩ := ln_sq hq.x (key hx) (by decide +kernel)
    obtain ⟨a2, b2, c2, d2⟩ := ln_sq hq.y (key hy) (by decide +kernel)
    obtain ⟨a3, b3, c3, d3⟩ := ln_sq hq.z (key hz) (by decide +kernel)
    have e9 : (1 + 2 * (1 / 100)) * u24 ≤ 1 / 100000 := by decide +kernel
    have m1 : a1 ≤ 11 / 1000 := by obtain ⟨_, g⟩ := d1; obtain ⟨_, g2⟩ := key hx; grind
    have m2 : a2 ≤ 11 / 1000 := by obtain ⟨_, g⟩ := d2; obtain ⟨_, g2⟩ := key hy; grind
    have m3 : a3 ≤ 11 / 1000 := by obtain ⟨_, g⟩ := d3; obtain ⟨_, g2⟩ := key hz; grind
    have e8 : (1 + 2 * (1 / 10)) * u24 ≤ 1 / 100000 := by decide +kernel
    obtain ⟨s1, t1, w1, q1⟩ := ln_add b1 b2 c1 c2 (B := 1 / 10) ⟨by grind, by grind⟩ (by decide +kernel)
    have m4 : s1 ≤ 23 / 1000 := by obtain ⟨_, g⟩ := q1; grind
    obtain ⟨s2, t2, w2, q2⟩ := ln_add t1 b3 w1 c3 (B := 1 / 10) ⟨by grind, by grind⟩ (by decide +kernel)
    have m5 : s2 ≤ 36 / 1000 := by obtain ⟨_, g⟩ := q2; grind
    obtain ⟨z, ω, z1, z2, z3, z4, _⟩ := qv_sqrt (k := 0) (K := 1) (show (1 : Rat) = ((2 ^ 0 : Nat) : Rat) by decide +kernel) (by decide) t2 w2 (by grind)
    have hω : ω ≤ 2 / 10 := rsq_le (by decide +kernel) (by grind)
    have e7 : (1 : Rat) / 4194304 ≤ 1 / 1000 := by decide +kernel
    exact ⟨z, z1, ⟨by grind, by grind⟩⟩
/-- The real place behind a step. -/
structure Fts (a b d : R3) (σ : Rat) : Prop where
  one : One d
  st : nb (b.sub (a.add (d.sm σ))) (700 / io)
theorem stp_v (S : Fts a b d σ) (s0 : 1 / 16 ≤ σ) (s1 : σ ≤ 1 / 2) : (σ - 2 / 1000000) * (σ - 2 / 1000000) ≤ (b.sub a).dot (b.sub a) ∧ nb (b.sub a) (σ + 2 / 1000000) := by
  have e1 : b.sub a = (d.sm σ).add (b.sub (a.add (d.sm σ))) := by apply R3.ext' <;> (unfold R3.add R3.sub R3.sm; grind)
  have c0 : (700 : Rat) / io ≤ 66 / 100000000 := by decide +kernel
  have k := S.st.mono c0
  obtain ⟨o1, o2⟩ := S.one
  have ed : (d.sm σ).dot (d.sm σ) = σ * σ * d.dot d := by unfold R3.dot R3.sm; grind
  have ss := sq_nn σ
  clear c0
  have hs := Rat.mul_le_mul_of_nonneg_left s1 (show 0 ≤ σ by grind)
  have l1 := Rat.mul_le_mul_of_nonneg_left (show 999999 / 1000000 ≤ d.dot d by grind) ss
  have l2 := Rat.mul_le_mul_of_nonneg_left (show d.dot d ≤ 1000001 / 1000000 by grind) ss
  constructor
  · rw [e1]
    have lo := nb_low (s := σ - 1 / 1000000) (by grind) k (by rw [ed]; grind)
    exact Rat.le_trans (rsq_mono (by grind) (by grind)) lo
  · rw [e1]
    have hd : nb (d.sm σ) (σ + 1 / 1000000) := ⟨by grind, by rw [ed]; grind⟩
    exact (hd.add k).mono (by grind)
theorem dot_swap : (a.sub b).dot (a.sub b) = (b.sub a).dot (b.sub a) := by unfold R3.dot R3.sub; grind
/-- How long a step is, in floats: either way. -/
theorem stp_len (S : Fts a b d σ) (s0 : 1 / 16 ≤ σ) (s1 : σ ≤ 1 / 2) (hA : qv3 A a.x a.y a.z) (hB : qv3 B b.x b.y b.z) :
    (∃ x, qv (long3 (sub3 B A)) x ∧ Rg (x - σ) (4 / 1000000)) ∧ ∃ x, qv (long3 (sub3 A B)) x ∧ Rg (x - σ) (4 / 1000000) := by
  obtain ⟨h1, h2⟩ := stp_v S s0 s1
  have h3 := h2.2
  have q0 : 1 / 1000 ≤ (b.sub a).dot (b.sub a) := by
    have := rsq_mono (a := 6 / 100) (b := σ - 2 / 1000000) (by decide +kernel) (by grind)
    grind
  have q9 : (b.sub a).dot (b.sub a) ≤ 250 := by
    have := rsq_mono (a := σ + 2 / 1000000) (b := 1) (by grind) (by grind)
    grind
  have key : ∀ {x : Rat}, 0 < x → Rg (x * x - (b.sub a).dot (b.sub a)) (7011 / 1000 * u24 * (b.sub a).dot (b.sub a)) → Rg (x - σ) (4 / 1000000) := by
    intro x x2 x3
    have hu : u24 = 1 / 16777216 := rfl
    rw [hu] at x3
    obtain ⟨x4, x5⟩ := x3
    have hs := Rat.mul_le_mul_of_nonneg_left s1 (show 0 ≤ σ by grind)
    have g1 : σ - 4 / 1000000 ≤ x := rsq_le (Rat.le_of_lt x2) (by grind)
    have g2 : x ≤ σ + 4 / 1000000 := rsq_le (by grind) (by grind)
    exact ⟨by grind, by grind⟩
  constructor
  · obtain ⟨x, x1, x2, x3⟩ := long_sub hB hA rfl q0 q9
    exact ⟨x, x1, key x2 x3⟩
  · obtain ⟨x, x1, x2, x3⟩ := long_sub hA hB (v := a.sub b) rfl (by rw [dot_swap]; exact q0) (by rw [dot_swap]; exact q9)
    rw [dot_swap] at x3
    exact ⟨x, x1, key x2 x3⟩
end
end Go.Proofs.Ytfkblhlkeglilaa

namespace Go.Proofs.Ytfkblhlkeglilaa
open Go.RowKit R3 Mt
set_option maxRecDepth 20000
attribute [local irreducible] D9 D7 UU WW W9 segF fop dirI
section
variable {L : List V3} {P : V3} {p d D q : R3} {st h n e ep a : Nat} {x y z u v t : Int}
theorem mv_real (x u : Int) (h : Nat) (ha : 0 < a) : Rg (((mv x u a h : Int) : Rat) - ((x : Rat) + (h : Rat) / (a : Rat) * (u : Rat))) 1 := by
  have e0 : mv x u a h = x + ((h : Int) * u).tdiv (a : Int) := rfl
  have ha0 : (0 : Int) < (a : Int) := by omega
  have h1 := Int.mul_tdiv_add_tmod ((h : Int) * u) (a : Int)
  have h2 := Int.tmod_lt_of_pos ((h : Int) * u) ha0
  have h3 := Int.lt_tmod_of_pos ((h : Int) * u) ha0
  rw [e0]
  generalize ((h : Int) * u).tmod (a : Int) = m at *
  generalize ((h : Int) * u).tdiv (a : Int) = k at *
  have r1 := congrArg (fun z : Int => (z : Rat)) h1
  simp only [Rat.intCast_add, Rat.intCast_mul] at r1
  have e2 : ((a : Int) : Rat) = (a : Rat) := rfl
  have e3 : ((h : Int) : Rat) = (h : Rat) := rfl
  have r2 := Rat.intCast_le_intCast.2 (Int.le_of_lt h2)
  have r3 := Rat.intCast_le_intCast.2 (Int.le_of_lt h3)
  rw [Rat.intCast_neg, e2] at r3
  rw [e2] at r2
  rw [e2, e3] at r1
  rw [Rat.intCast_add]
  have a0 : (0 : Rat) < (a : Rat) := Rat.natCast_lt_natCast.2 ha
  obtain ⟨g, hg⟩ : ∃ g, g * (a : Rat) = h := ⟨(h : Rat) / a, by rw [Rat.div_mul_cancel]; intro h; rw [h] at a0; exact absurd a0 (by decide)⟩
  have eg : (h : Rat) / (a : Rat) = g := by rw [← hg]; grind
  rw [eg]
  rw [← hg] at r1
  constructor
  · refine Rat.le_of_mul_le_mul_right (c := (a : Rat)) ?_ a0
    grind
  · refine Rat.le_of_mul_le_mul_right (c := (a : Rat)) ?_ a0
    grind
/-- A place behind a step, in units. -/
theorem pos_step (ha : 0 < a) (hp : nb ((p.sm io).sub (Pt x y z)) (e : Rat)) (hD : nb ((D.sm io).sub (Pt u v t)) (ep : Rat)) (hq : nb (q.sub (p.add (D.sm ((h : Rat) / (a : Rat))))) (700 / io)) : nb ((q.sm io).sub (Pt (mv x u a h) (mv y v a h) (mv z t a h))) ((er e h ep a : Nat) : Rat) := by
  have k1 := mv_real x u h ha
  have k2 := mv_real y v h ha
  have k3 := mv_real z t h ha
  have a0 : (0 : Rat) < (a : Rat) := Rat.natCast_lt_natCast.2 ha
  obtain ⟨g, hg⟩ : ∃ g, g * (a : Rat) = h := ⟨(h : Rat) / a, by rw [Rat.div_mul_cancel]; intro h; rw [h] at a0; exact absurd a0 (by decide)⟩
  have eg : (h : Rat) / (a : Rat) = g := by rw [← hg]; grind
  rw [eg] at k1 k2 k3 hq
  have g0 : 0 ≤ g := Rat.le_of_mul_le_mul_right (c := (a : Rat)) (by rw [Rat.zero_mul, hg]; exact Rat.natCast_nonneg) a0
  generalize mv x u a h = x' at *
  generalize mv y v a h = y' at *
  generalize mv z t a h = z' at *
  have j1 : nb ((q.sub (p.add (D.sm g))).sm io) 700 := by
    have := hq.sm (k := io) (K := io) ⟨by decide +kernel, Rat.le_refl⟩
    exact this.mono (by decide +kernel)
  have j2 := hD.sm (k := g) (K := g) ⟨by grind, Rat.le_refl⟩
  have j3 : nb (((Pt x y z).add ((Pt u v t).sm g)).sub (Pt x' y' z')) 2 := by
    refine ⟨by decide +kernel, ?_⟩
    have q1 := (rmul k1 k1).2
    have q2 := (rmul k2 k2).2
    have q3 := (rmul k3 k3).2
    unfold Pt R3.add R3.sub R3.sm R3.dot
    simp only
    grind
  have e1 : (q.sm io).sub (Pt x' y' z') = ((((q.sub (p.add (D.sm g))).sm io).add ((p.sm io).sub (Pt x y z))).add (((D.sm io).sub (Pt u v t)).sm g)).add (((Pt x y z).add ((Pt u v t).sm g)).sub (Pt x' y' z')) := by
    generalize Pt x' y' z' = A
    generalize Pt x y z = B
    generalize Pt u v t = C
    apply R3.ext' <;> (unfold R3.add R3.sub R3.sm; grind)
  rw [e1]
  refine (((j1.add hp).add j2).add j3).mono ?_
  have e2 : er e h ep a = e + h * ep / a + 704 := rfl
  obtain ⟨_, d⟩ := div_rat (h * ep) a ha
  have c7 : ((704 : Nat) : Rat) = 704 := rfl
  rw [e2, Rat.natCast_add, Rat.natCast_add, c7]
  rw [Rat.natCast_mul, ← hg] at d
  have : g * (ep : Rat) ≤ ((h * ep / a : Nat) : Rat) + 1 := Rat.le_of_mul_le_mul_right (c := (a : Rat)) (by grind) a0
  grind
theorem inR_is (h : inR x y z e = true) (hp : nb ((p.sm io).sub (Pt x y z)) (e : Rat)) : nb p (97 / 10) := by
  obtain ⟨h1, h2⟩ := and_is h
  have r1 := nbr (ble_is h1)
  have r2 := nbr (ble_is h2)
  have e1 : Nat.add (Nat.add (sqI x) (sqI y)) (sqI z) = sqI x + sqI y + sqI z := rfl
  rw [e1, Rat.natCast_add, Rat.natCast_add, sqI_rat, sqI_rat, sqI_rat] at r1
  have c1 : ((101872144135000000000 : Nat) : Rat) = 101872144135000000000 := rfl
  have c2 : ((322122547 : Nat) : Rat) = 322122547 := rfl
  rw [c1] at r1
  rw [c2] at r2
  have k : nb (Pt x y z) (94 / 10 * io) := ⟨by decide +kernel, by
    have : (94 / 10 * io) * (94 / 10 * io) ≥ 101872144135000000000 := by decide +kernel
    unfold Pt R3.dot
    exact Rat.le_trans r1 this⟩
  have k2 := (hp.from k).sm (k := 1 / io) (K := 1 / io) ⟨by decide +kernel, Rat.le_refl⟩
  have hi := io_inv
  have e3 : (p.sm io).sm (1 / io) = p := by
    obtain ⟨j, hj⟩ : ∃ j, j = 1 / io := ⟨_, rfl⟩
    rw [← hj] at hi ⊢
    apply R3.ext' <;> (unfold R3.sm; grind)
  rw [e3] at k2
  refine k2.mono ?_
  have eio : io = 1073741824 := rfl
  rw [eio]
  grind
/-- A place near one that is far. -/
theorem far_near {dd : Nat} (h : far x y z dd = true) (hp : nb ((p.sm io).sub (Pt x y z)) (e : Rat)) (hd : e ≤ dd) : Far p (((dd : Rat) - e) * (1 / io)) := by
  have F := far_is h
  have k := hp.sm (k := 1 / io) (K := 1 / io) ⟨by decide +kernel, Rat.le_refl⟩
  have hi := io_inv
  have e3 : ((p.sm io).sub (Pt x y z)).sm (1 / io) = p.sub ((Pt x y z).sm (1 / io)) := by
    obtain ⟨j, hj⟩ : ∃ j, j = 1 / io := ⟨_, rfl⟩
    rw [← hj] at hi ⊢
    apply R3.ext' <;> (unfold R3.sm R3.sub; grind)
  rw [e3] at k
  have j0 : 0 ≤ 1 / io := by decide +kernel
  have := F.near k (by
    have h1 := Rat.mul_le_mul_of_nonneg_right (nbr hd) j0
    grind)
  have e4 : ((dd : Rat) - e) * (1 / io) = (dd : Rat) * (1 / io) - 1 / io * (e : Rat) := by grind
  rw [e4]; exact this
theorem dom_step (hw : Stw st h) (hn : n + 1 ≤ 7) (hD : Dom h (n + 1) p) (h1 : One d) (hq : nb (q.sub (p.add (d.sm ((h : Rat) / 16)))) (700 / io)) : Dom h n q := by
  obtain ⟨s, s1, s2⟩ := hD
  obtain ⟨_, r2⟩ := dom_r (n := n) hn hw.h8
  have hh : (1 : Rat) ≤ (h : Rat) := nbr hw.h1
  have q3 := step_len h1 (by grind) hq
  exact ⟨s, s1, (q3.tri s2).mono (by grind)⟩
theorem dom_mid (hw : Stw st h) (hn : n + 1 ≤ 7) (hD : Dom h (n + 1) p) (h1 : One d) (hq : nb (q.sub (p.add (d.sm ((h : Rat) / 32)))) (700 / io)) : Box q := by
  obtain ⟨s, s1, s2⟩ := hD
  obtain ⟨r1, _⟩ := dom_r (n := n) hn hw.h8
  have hh : (1 : Rat) ≤ (h : Rat) := nbr hw.h1
  have h8 : (h : Rat) ≤ 8 := nbr hw.h8
  have q3 := step_len h1 (by grind) hq
  exact (sta_box s1 (q3.tri s2) (by grind)).1
theorem stp_run {ih : Int → Int → Int → Nat → Bool} (hL : Ring12 L) (hw : Stw st h) (hE : Evw L) (hn : n + 1 ≤ 7) (H : ∀ x y z e Q q, ih x y z e = true → qv3 Q q.x q.y q.z → nb ((q.sm io).sub (Pt x y z)) (e : Rat) → Dom h n q → Run L st h n Q q)
    (hs : stp h n ih x y z e u v t ep = true) (hP : qv3 P p.x p.y p.z) (hp : nb ((p.sm io).sub (Pt x y z)) (e : Rat)) (h9 : nb p (97 / 10)) (hDm : Dom h (n + 1) p) (hD : qv3 (dirI (RW L) P) D.x D.y D.z) (h1 : One D) (hDU : nb ((D.sm io).sub (Pt u v t)) (ep : Rat)) : Run L st h (n + 1) P p := by
  have r1 : (1 : Rat) ≤ (h : Rat) := nbr hw.h1
  have r8 : (h : Rat) ≤ 8 := nbr hw.h8
  unfold stp at hs
  simp only [force_is, forceI_is] at hs
  obtain ⟨m, m1, m2⟩ := add_step (P := P) (Dw := dirI (RW L) P) hP hD h1 hw.half (by grind) (by grind) h9
  have m1 : qv3 (midI (RW L) P st) m.x m.y m.z := m1
  have c32 : ((32 : Nat) : Rat) = 32 := rfl
  have c16 : ((16 : Nat) : Rat) = 16 := rfl
  have mB := dom_mid hw hn hDm h1 m2
  have mP := pos_step (a := 32) (h := h) (by decide) hp hDU (by rw [c32]; exact m2)
  cases hn0 : Nat.beq n 0 with
  | true =>
    rw [hn0] at hs
    have hs : far (mv x u 32 h) (mv y v 32 h) (mv z t 32 h) (Nat.add (er e h ep 32) 107374183) = true := hs
    have F := far_near hs mP (Nat.le_add_right _ _)
    have hF : Far m (1 / 10) := F.mono (by decide +kernel) (by
      have e1 : ((Nat.add (er e h ep 32) 107374183 : Nat) : Rat) = ((er e h ep 32 : Nat) : Rat) + 107374183 := Rat.natCast_add _ _
      have e2 : (1 : Rat) / 10 ≤ 107374183 * (1 / io) := by decide +kernel
      rw [e1]; grind)
    obtain ⟨d, d1, d2⟩ := hE _ m m1 mB hF
    refine run_step hw hP h9 hD m1 d1 d2 fun q _ _ => ?_
    have : n = 0 := Nat.eq_of_beq_eq_true hn0
    subst this
    trivial
  | false =>
    rw [hn0] at hs
    obtain ⟨hi, hb⟩ := and_is hs
    obtain ⟨u', v', t', ep', hk, hball⟩ := dir_ball hL hb
    obtain ⟨d, d1, d2, d3⟩ := hball _ m m1 mP
    refine run_step hw hP h9 hD m1 d1 d2 fun q q1 q2 => ?_
    refine H _ _ _ _ _ _ hk q1 (pos_step (a := 16) (h := h) (by decide) hp d3 (by rw [c16]; exact q2)) (dom_step hw hn hDm d2 q2)
theorem far_fd (hw : Stw st h) (hE : Evw L) (hn : n + 1 ≤ 7) (hf : far x y z (fd h n e) = true) (hP : qv3 P p.x p.y p.z) (hp : nb ((p.sm io).sub (Pt x y z)) (e : Rat)) (hDm : Dom h (n + 1) p) : Run L st h (n + 1) P p := by
  have e0 : fd h n e = e + (2 * n + 1) * h * 33554432 + 128849019 := rfl
  have F := far_near hf hp (by rw [e0]; omega)
  refine far_run hw hE (n + 1) P p hn hP hDm fun k hk => ?_
  obtain rfl : n = k := by omega
  have n9 : (n : Rat) ≤ 6 := nbr (show n ≤ 6 by omega)
  have c3 : ((33554432 : Nat) : Rat) = 33554432 := rfl
  have c12 : ((128849019 : Nat) : Rat) = 128849019 := rfl
  have n0 : (0 : Rat) ≤ (n : Rat) := Rat.natCast_nonneg
  have h0 : (0 : Rat) ≤ (h : Rat) := Rat.natCast_nonneg
  have nh := Rat.mul_nonneg n0 h0
  refine F.mono (by grind) ?_
  rw [e0]
  simp only [Rat.natCast_add, Rat.natCast_mul, c3, c12, c1n, c2n]
  have ei : 1 / io = 1 / 1073741824 := rfl
  rw [ei]
  grind
theorem trk_run (hL : Ring12 L) (hw : Stw st h) (hE : Evw L) : ∀ (n : Nat), n ≤ 7 → ∀ (x y z : Int) (e : Nat) (P : V3) (p : R3), trk h n x y z e = true → qv3 P p.x p.y p.z → nb ((p.sm io).sub (Pt x y z)) (e : Rat) → Dom h n p → Run L st h n P p
  | 0, _, _, _, _, _, _, _, _, _, _, _ => trivial
  | n + 1, hn, x, y, z, e, P, p, ht, hP, hp, hDm => by
    have e0 : trk h (n + 1) x y z e = or (far x y z (fd h n e)) (and (inR x y z e) (Mt.bl x y z e (stp h n (trk h n) x y z e))) := rfl
    rw [e0] at ht
    rcases or_is ht with hf | ht
    · exact far_fd hw hE hn hf hP hp hDm
    · obtain ⟨h1, h2⟩ := and_is ht
      obtain ⟨u, v, t, ep, hk, hball⟩ := dir_ball hL h2
      obtain ⟨D, d1, d2, d3⟩ := hball P p hP hp
      exact stp_run hL hw hE hn (fun x y z e Q q a b c d => trk_run hL hw hE n (by omega) x y z e Q q a b c d) hk hP hp (inR_is h1 hp) hDm d1 d2 d3
end
end Go.Proofs.Ytfkblhlkeglilaa

namespace Go.Proofs.Ytfkblhlkeglilaa
open Go.RowKit R3 Mt
set_option maxRecDepth 20000
attribute [local irreducible] D9 D7 UU WW W9 segF fop dirI
section
variable {L : List V3} {p D0 D1 D2 D3 DM m1 P1 m2 M : R3} {Wm1 WP1 Wm2 WM : V3} {h hl hh ep : Nat} {x y z u v t : Int}
theorem one_nb6 {D : R3} (h : One D) : nb D (1000001 / 1000000) := ⟨by decide +kernel, by obtain ⟨_, h⟩ := h; grind⟩
theorem mv3 (x y z u v t : Int) (hs : Nat) : nb (((Pt x y z).add ((Pt u v t).sm ((hs : Rat) / 128))).sub (Pt (mv x u 128 hs) (mv y v 128 hs) (mv z t 128 hs))) 2 := by
  have c : ((128 : Nat) : Rat) = 128 := rfl
  have k1 := mv_real (a := 128) x u hs (by decide)
  have k2 := mv_real (a := 128) y v hs (by decide)
  have k3 := mv_real (a := 128) z t hs (by decide)
  rw [c] at k1 k2 k3
  refine ⟨by decide +kernel, ?_⟩
  have q1 := (rmul k1 k1).2
  have q2 := (rmul k2 k2).2
  have q3 := (rmul k3 k3).2
  unfold Pt R3.add R3.sub R3.sm R3.dot
  simp only
  grind
/-- What is known of a step and two half steps. -/
structure Hf (L : List V3) (h : Nat) (p D0 D1 D2 D3 DM m1 P1 m2 M : R3) (Wm1 WP1 Wm2 WM : V3) : Prop where
  qm1 : qv3 Wm1 m1.x m1.y m1.z
  qP1 : qv3 WP1 P1.x P1.y P1.z
  qm2 : qv3 Wm2 m2.x m2.y m2.z
  qM : qv3 WM M.x M.y M.z
  q1 : qv3 (dirI (RW L) Wm1) D1.x D1.y D1.z
  q2 : qv3 (dirI (RW L) WP1) D2.x D2.y D2.z
  q3 : qv3 (dirI (RW L) Wm2) D3.x D3.y D3.z
  qM' : qv3 (dirI (RW L) WM) DM.x DM.y DM.z
  o0 : One D0
  o1 : One D1
  o2 : One D2
  o3 : One D3
  oM : One DM
  e1 : nb (m1.sub (p.add (D0.sm ((h : Rat) / 64)))) (700 / io)
  eP : nb (P1.sub (p.add (D1.sm ((h : Rat) / 32)))) (700 / io)
  e2 : nb (m2.sub (P1.add (D2.sm ((h : Rat) / 64)))) (700 / io)
  eM : nb (M.sub (p.add (D0.sm ((h : Rat) / 32)))) (700 / io)
theorem io_sm {q : R3} {B : Rat} (hq : nb q (B / io)) : nb (q.sm io) B := by
  have := hq.sm (k := io) (K := io) ⟨by decide +kernel, Rat.le_refl⟩
  have e : io * (B / io) = B := by have := io_inv; grind
  rw [e] at this
  exact this
theorem dv_io {q : R3} {B : Rat} (hq : nb (q.sm io) B) : nb q (B * (1 / io)) := by
  have := hq.sm (k := 1 / io) (K := 1 / io) ⟨by decide +kernel, Rat.le_refl⟩
  have hi := io_inv
  have e3 : (q.sm io).sm (1 / io) = q := by
    obtain ⟨j, hj⟩ : ∃ j, j = 1 / io := ⟨_, rfl⟩
    rw [← hj] at hi ⊢
    apply R3.ext' <;> (unfold R3.sm; grind)
  rw [e3, Rat.mul_comm] at this
  exact this
/-- The values of a direction are one. -/
theorem dir_uni {W : V3} {A B : R3} (h1 : qv3 W A.x A.y A.z) (h2 : qv3 W B.x B.y B.z) : A = B := R3.ext' (qv_inj h1.x h2.x) (qv_inj h1.y h2.y) (qv_inj h1.z h2.z)
theorem sq_le_nb {a b c : Int} {n : Nat} (h : Nat.ble (df3 a b c) (Nat.mul n n) = true) : nb (Pt a b c) (n : Rat) := by
  have := nbr (ble_is h)
  have e1 : df3 a b c = sqI a + sqI b + sqI c := rfl
  have e2 : ((Nat.mul n n : Nat) : Rat) = (n : Rat) * n := Rat.natCast_mul n n
  rw [e1, e2, Rat.natCast_add, Rat.natCast_add, sqI_rat, sqI_rat, sqI_rat] at this
  exact ⟨Rat.natCast_nonneg, this⟩
theorem grp_real (hL : Ring12 L) (g1 : hl ≤ h) (g2 : h ≤ hh) (g8 : hh ≤ 8) (g4 : 4 ≤ hl) (hp : p.sm io = Pt x y z) (hU : nb ((D0.sm io).sub (Pt u v t)) (ep : Rat)) (H : Hf L h p D0 D1 D2 D3 DM m1 P1 m2 M Wm1 WP1 Wm2 WM) (hg : grp x y z u v t ep hl hh = true) : nb (((DM.sm 2).sub (D1.add D3)).sm ((h : Rat) / 32)) (4996 / 10000) := by
  unfold grp at hg
  simp only [force_is, forceI_is] at hg
  obtain ⟨d, hd⟩ : ∃ d, hh = hl + d := ⟨hh - hl, by omega⟩
  have hd4 : d ≤ 4 := by omega
  have ed : Nat.sub hh hl = d := by show hh - hl = d; omega
  rw [ed] at hg
  obtain ⟨hs, hhs⟩ : ∃ hs, hs = Nat.add hl hh := ⟨_, rfl⟩
  rw [← hhs] at hg
  have rhs : (hs : Rat) = (hl : Rat) + hh := by rw [hhs]; exact Rat.natCast_add _ _
  have rd : (hh : Rat) = (hl : Rat) + d := by rw [hd, Rat.natCast_add]
  have r1 : (hl : Rat) ≤ h := nbr g1
  have r2 : (h : Rat) ≤ hh := nbr g2
  have r4 : (4 : Rat) ≤ hl := nbr g4
  have r8 : (hh : Rat) ≤ 8 := nbr g8
  have rd4 : (d : Rat) ≤ 4 := nbr hd4
  have hdd : Rg (2 * (h : Rat) - hs) (d : Rat) := ⟨by grind, by grind⟩
  have n0 := one_nb6 H.o0
  have n1 := one_nb6 H.o1
  have n2 := one_nb6 H.o2
  have eio : io = 1073741824 := rfl
  have io0 : 0 ≤ io := by decide +kernel
  obtain ⟨u1, v1, t1, e1, hk, B1⟩ := dir_ball hL hg
  have ep0 : (0 : Rat) ≤ (ep : Rat) := Rat.natCast_nonneg
  have e10 : (0 : Rat) ≤ (e1 : Rat) := Rat.natCast_nonneg
  -- the first half's middle
  have hm1 : nb ((m1.sm io).sub (Pt (mv x u 128 hs) (mv y v 128 hs) (mv z t 128 hs))) ((Nat.add (Nat.add (Nat.mul d 8388608) (Nat.div (Nat.mul hh ep) 64)) 800 : Nat) : Rat) := by
    have k0 := mv3 x y z u v t hs
    have k1 := io_sm H.e1
    have k2 := (n0.sm (k := (h : Rat) / 64 - (hs : Rat) / 128) (K := (d : Rat) / 128) ⟨by have := hdd.1; grind, by have := hdd.2; grind⟩).sm (k := io) (K := io) ⟨by grind, Rat.le_refl⟩
    have k3 := hU.sm (k := (hs : Rat) / 128) (K := (hh : Rat) / 64) ⟨by grind, by grind⟩
    have e : (m1.sm io).sub (Pt (mv x u 128 hs) (mv y v 128 hs) (mv z t 128 hs)) = ((((m1.sub (p.add (D0.sm ((h : Rat) / 64)))).sm io).add ((D0.sm ((h : Rat) / 64 - (hs : Rat) / 128)).sm io)).add (((D0.sm io).sub (Pt u v t)).sm ((hs : Rat) / 128))).add (((Pt x y z).add ((Pt u v t).sm ((hs : Rat) / 128))).sub (Pt (mv x u 128 hs) (mv y v 128 hs) (mv z t 128 hs))) := by
      rw [← hp]
      generalize Pt (mv x u 128 hs) (mv y v 128 hs) (mv z t 128 hs) = A
      generalize Pt u v t = B
      apply R3.ext' <;> (unfold R3.add R3.sub R3.sm; grind)
    rw [e]
    refine (((k1.add k2).add k3).add k0).mono ?_
    obtain ⟨_, dd⟩ := div_rat (hh * ep) 64 (by decide)
    have c64 : ((64 : Nat) : Rat) = 64 := rfl
    rw [c64, Rat.natCast_mul] at dd
    have eN : Nat.add (Nat.add (Nat.mul d 8388608) (Nat.div (Nat.mul hh ep) 64)) 800 = d * 8388608 + hh * ep / 64 + 800 := rfl
    have c8 : ((8388608 : Nat) : Rat) = 8388608 := rfl
    have c800 : ((800 : Nat) : Rat) = 800 := rfl
    rw [eN, Rat.natCast_add, Rat.natCast_add, Rat.natCast_mul, c8, c800, eio]
    grind
  obtain ⟨A1, a1, _, a3⟩ := B1 _ m1 H.qm1 hm1
  have eA1 := dir_uni a1 H.q1
  rw [eA1] at a3
  obtain ⟨gg, hk⟩ := gss_is hk
  obtain ⟨dv0, hk⟩ := rt5_is hk
  obtain ⟨hv, hk⟩ := and_is hk
  obtain ⟨dv, hdv⟩ : ∃ dv, dv = Nat.add dv0 1 := ⟨_, rfl⟩
  rw [← hdv] at hv hk
  have V := sq_le_nb hv
  have dv9 : (0 : Rat) ≤ (dv : Rat) := Rat.natCast_nonneg
  have eV : Pt (Int.sub u u1) (Int.sub v v1) (Int.sub t t1) = (Pt u v t).sub (Pt u1 v1 t1) := by
    have f : ∀ a b : Int, ((Int.sub a b : Int) : Rat) = (a : Rat) - b := fun a b => Rat.intCast_sub a b
    unfold Pt R3.sub
    rw [f, f, f]
  rw [eV] at V
  obtain ⟨u2, v2, t2, e2, hk, B2⟩ := dir_ball hL hk
  have e20 : (0 : Rat) ≤ (e2 : Rat) := Rat.natCast_nonneg
  have c64 : ((64 : Nat) : Rat) = 64 := rfl
  have c32 : ((32 : Nat) : Rat) = 32 := rfl
  have eU : Pt (Int.add u u1) (Int.add v v1) (Int.add t t1) = (Pt u v t).add (Pt u1 v1 t1) := by
    have f : ∀ a b : Int, ((Int.add a b : Int) : Rat) = (a : Rat) + b := fun a b => Rat.intCast_add a b
    unfold Pt R3.add
    rw [f, f, f]
  obtain ⟨r2, hr2⟩ : ∃ r2, r2 = Nat.add (Nat.add (Nat.add (Nat.mul d 16777216) (Nat.div (Nat.mul hh dv) 64)) (Nat.div (Nat.mul hh (Nat.add ep e1)) 32)) 800 := ⟨_, rfl⟩
  rw [← hr2] at B2
  have hr2' : (d : Rat) * 16777216 + ((hh : Rat) * dv / 64 - 1) + ((hh : Rat) * ((ep : Rat) + e1) / 32 - 1) + 800 ≤ (r2 : Rat) := by
    obtain ⟨_, d1⟩ := div_rat (hh * dv) 64 (by decide)
    obtain ⟨_, d2⟩ := div_rat (hh * (ep + e1)) 32 (by decide)
    have eN : r2 = d * 16777216 + hh * dv / 64 + hh * (ep + e1) / 32 + 800 := hr2
    have c16 : ((16777216 : Nat) : Rat) = 16777216 := rfl
    have c800 : ((800 : Nat) : Rat) = 800 := rfl
    rw [c64, Rat.natCast_mul] at d1
    rw [c32, Rat.natCast_mul, Rat.natCast_add] at d2
    rw [eN, Rat.natCast_add, Rat.natCast_add, Rat.natCast_add, Rat.natCast_mul, c16, c800]
    grind
  -- the middle and the first half's end, by one ball
  have near2 : ∀ {w D : R3} {ed : Rat}, nb (w.sub (p.add (D.sm ((h : Rat) / 32)))) (700 / io) → nb D (1000001 / 1000000) → nb ((D.sm io).sub (((Pt u v t).add (Pt u1 v1 t1)).sm (1 / 2))) (ed + (dv : Rat) / 2) → 0 ≤ ed → ed ≤ (ep : Rat) + e1 → nb ((w.sm io).sub (Pt (mv x (Int.add u u1) 128 hs) (mv y (Int.add v v1) 128 hs) (mv z (Int.add t t1) 128 hs))) (r2 : Rat) := by
    intro w D ed hw hDn hDm ed0 hed
    have k0 := mv3 x y z (Int.add u u1) (Int.add v v1) (Int.add t t1) hs
    rw [eU] at k0
    have k1 := io_sm hw
    have k2 := (hDn.sm (k := (h : Rat) / 32 - (hs : Rat) / 64) (K := (d : Rat) / 64) ⟨by have := hdd.1; grind, by have := hdd.2; grind⟩).sm (k := io) (K := io) ⟨by grind, Rat.le_refl⟩
    have k3 := hDm.sm (k := (hs : Rat) / 64) (K := (hh : Rat) / 32) ⟨by grind, by grind⟩
    have e : (w.sm io).sub (Pt (mv x (Int.add u u1) 128 hs) (mv y (Int.add v v1) 128 hs) (mv z (Int.add t t1) 128 hs)) = ((((w.sub (p.add (D.sm ((h : Rat) / 32)))).sm io).add ((D.sm ((h : Rat) / 32 - (hs : Rat) / 64)).sm io)).add (((D.sm io).sub (((Pt u v t).add (Pt u1 v1 t1)).sm (1 / 2))).sm ((hs : Rat) / 64))).add (((Pt x y z).add (((Pt u v t).add (Pt u1 v1 t1)).sm ((hs : Rat) / 128))).sub (Pt (mv x (Int.add u u1) 128 hs) (mv y (Int.add v v1) 128 hs) (mv z (Int.add t t1) 128 hs))) := by
      rw [← hp]
      generalize Pt (mv x (Int.add u u1) 128 hs) (mv y (Int.add v v1) 128 hs) (mv z (Int.add t t1) 128 hs) = A
      generalize (Pt u v t).add (Pt u1 v1 t1) = B
      apply R3.ext' <;> (unfold R3.add R3.sub R3.sm; grind)
    rw [e]
    have m1 := Rat.mul_le_mul_of_nonneg_left hed (show 0 ≤ (hh : Rat) by grind)
    refine (((k1.add k2).add k3).add k0).mono (Rat.le_trans ?_ hr2')
    rw [eio]
    grind
  have half : ∀ {D A B : R3} {ed : Rat}, nb ((D.sm io).sub A) ed → nb (A.sub B) (dv : Rat) → nb ((D.sm io).sub ((A.add B).sm (1 / 2))) (ed + (dv : Rat) / 2) := by
    intro D A B ed h1 h2
    have k := h2.sm (k := 1 / 2) (K := 1 / 2) ⟨by decide +kernel, Rat.le_refl⟩
    have e : (D.sm io).sub ((A.add B).sm (1 / 2)) = ((D.sm io).sub A).add ((A.sub B).sm (1 / 2)) := by apply R3.ext' <;> (unfold R3.add R3.sub R3.sm; grind)
    rw [e]
    exact (h1.add k).mono (by grind)
  have hM := near2 H.eM n0 (half hU V) ep0 (by grind)
  have V' : nb ((Pt u1 v1 t1).sub (Pt u v t)) (dv : Rat) := by
    have e : (Pt u1 v1 t1).sub (Pt u v t) = ((Pt u v t).sub (Pt u1 v1 t1)).sm (-1) := by apply R3.ext' <;> (unfold R3.sub R3.sm; grind)
    rw [e]; exact V.neg
  have hP1 := near2 H.eP n1 (by
    have := half a3 V'
    have e : (Pt u1 v1 t1).add (Pt u v t) = (Pt u v t).add (Pt u1 v1 t1) := by apply R3.ext' <;> (unfold R3.add; grind)
    rw [e] at this
    exact this) e10 (by grind)
  obtain ⟨A2, b1, _, b3⟩ := B2 _ P1 H.qP1 hP1
  rw [dir_uni b1 H.q2] at b3
  obtain ⟨A3, c1, _, c3⟩ := B2 _ M H.qM hM
  rw [dir_uni c1 H.qM'] at c3
  obtain ⟨u3, v3, t3, e3, hk, B3⟩ := dir_ball hL hk
  have e30 : (0 : Rat) ≤ (e3 : Rat) := Rat.natCast_nonneg
  have eW : Pt (Int.add (Int.mul (Int.ofNat 2) u1) u2) (Int.add (Int.mul (Int.ofNat 2) v1) v2) (Int.add (Int.mul (Int.ofNat 2) t1) t2) = ((Pt u1 v1 t1).sm 2).add (Pt u2 v2 t2) := by
    have f : ∀ a b : Int, ((Int.add (Int.mul (Int.ofNat 2) a) b : Int) : Rat) = 2 * (a : Rat) + b := fun a b => by
      have : Int.add (Int.mul (Int.ofNat 2) a) b = 2 * a + b := rfl
      rw [this, Rat.intCast_add, Rat.intCast_mul]; rfl
    unfold Pt R3.add R3.sm
    rw [f, f, f]
  have hm2 : nb ((m2.sm io).sub (Pt (mv x (Int.add (Int.mul (Int.ofNat 2) u1) u2) 128 hs) (mv y (Int.add (Int.mul (Int.ofNat 2) v1) v2) 128 hs) (mv z (Int.add (Int.mul (Int.ofNat 2) t1) t2) 128 hs))) ((Nat.add (Nat.add (Nat.add (Nat.mul d 25165824) (Nat.div (Nat.mul hh e1) 32)) (Nat.div (Nat.mul hh e2) 64)) 1600 : Nat) : Rat) := by
    have k0 := mv3 x y z (Int.add (Int.mul (Int.ofNat 2) u1) u2) (Int.add (Int.mul (Int.ofNat 2) v1) v2) (Int.add (Int.mul (Int.ofNat 2) t1) t2) hs
    rw [eW] at k0
    have k1 := io_sm H.eP
    have k2 := io_sm H.e2
    have k3 := (n1.sm (k := (h : Rat) / 32 - (hs : Rat) / 64) (K := (d : Rat) / 64) ⟨by have := hdd.1; grind, by have := hdd.2; grind⟩).sm (k := io) (K := io) ⟨by grind, Rat.le_refl⟩
    have k4 := (n2.sm (k := (h : Rat) / 64 - (hs : Rat) / 128) (K := (d : Rat) / 128) ⟨by have := hdd.1; grind, by have := hdd.2; grind⟩).sm (k := io) (K := io) ⟨by grind, Rat.le_refl⟩
    have k5 := a3.sm (k := (hs : Rat) / 64) (K := (hh : Rat) / 32) ⟨by grind, by grind⟩
    have k6 := b3.sm (k := (hs : Rat) / 128) (K := (hh : Rat) / 64) ⟨by grind, by grind⟩
    generalize Pt (mv x (Int.add (Int.mul (Int.ofNat 2) u1) u2) 128 hs) (mv y (Int.add (Int.mul (Int.ofNat 2) v1) v2) 128 hs) (mv z (Int.add (Int.mul (Int.ofNat 2) t1) t2) 128 hs) = A at *
    generalize Pt u1 v1 t1 = B at *
    generalize Pt u2 v2 t2 = C at *
    have e : (m2.sm io).sub A = ((((((P1.sub (p.add (D1.sm ((h : Rat) / 32)))).sm io).add ((m2.sub (P1.add (D2.sm ((h : Rat) / 64)))).sm io)).add ((D1.sm ((h : Rat) / 32 - (hs : Rat) / 64)).sm io)).add ((D2.sm ((h : Rat) / 64 - (hs : Rat) / 128)).sm io)).add ((((D1.sm io).sub B).sm ((hs : Rat) / 64)).add (((D2.sm io).sub C).sm ((hs : Rat) / 128)))).add (((Pt x y z).add (((B.sm 2).add C).sm ((hs : Rat) / 128))).sub A) := by
      rw [← hp]
      apply R3.ext' <;> (unfold R3.add R3.sub R3.sm; grind)
    rw [e]
    refine (((((k1.add k2).add k3).add k4).add (k5.add k6)).add k0).mono ?_
    obtain ⟨_, d1⟩ := div_rat (hh * e1) 32 (by decide)
    obtain ⟨_, d2⟩ := div_rat (hh * e2) 64 (by decide)
    rw [c32, Rat.natCast_mul] at d1
    rw [c64, Rat.natCast_mul] at d2
    have eN : Nat.add (Nat.add (Nat.add (Nat.mul d 25165824) (Nat.div (Nat.mul hh e1) 32)) (Nat.div (Nat.mul hh e2) 64)) 1600 = d * 25165824 + hh * e1 / 32 + hh * e2 / 64 + 1600 := rfl
    have c25 : ((25165824 : Nat) : Rat) = 25165824 := rfl
    have c1600 : ((1600 : Nat) : Rat) = 1600 := rfl
    rw [eN, Rat.natCast_add, Rat.natCast_add, Rat.natCast_add, Rat.natCast_mul, c25, c1600, eio]
    grind
  obtain ⟨A3, d1, _, d3⟩ := B3 _ m2 H.qm2 hm2
  rw [dir_uni d1 H.q3] at d3
  obtain ⟨gg, hk⟩ := gss_is hk
  obtain ⟨df0, hk⟩ := rt5_is hk
  obtain ⟨hf, hk⟩ := and_is hk
  obtain ⟨df, hdf⟩ : ∃ df, df = Nat.add df0 1 := ⟨_, rfl⟩
  rw [← hdf] at hf hk
  have F := sq_le_nb hf
  have eF : Pt (Int.sub (Int.sub (Int.mul (Int.ofNat 2) u2) u1) u3) (Int.sub (Int.sub (Int.mul (Int.ofNat 2) v2) v1) v3) (Int.sub (Int.sub (Int.mul (Int.ofNat 2) t2) t1) t3) = (((Pt u2 v2 t2).sm 2).sub (Pt u1 v1 t1)).sub (Pt u3 v3 t3) := by
    have f : ∀ a b c : Int, ((Int.sub (Int.sub (Int.mul (Int.ofNat 2) a) b) c : Int) : Rat) = 2 * (a : Rat) - b - c := fun a b c => by
      have : Int.sub (Int.sub (Int.mul (Int.ofNat 2) a) b) c = 2 * a - b - c := rfl
      rw [this, Rat.intCast_sub, Rat.intCast_sub, Rat.intCast_mul]; rfl
    unfold Pt R3.sub R3.sm
    simp only [f]
  rw [eF] at F
  have c2 := c3.sm (k := 2) (K := 2) ⟨by decide +kernel, Rat.le_refl⟩
  have S := ((c2.add F).add (a3.neg)).add (d3.neg)
  have e : ((DM.sm 2).sub (D1.add D3)).sm io = (((((DM.sm io).sub (Pt u2 v2 t2)).sm 2).add ((((Pt u2 v2 t2).sm 2).sub (Pt u1 v1 t1)).sub (Pt u3 v3 t3))).add (((D1.sm io).sub (Pt u1 v1 t1)).sm (-1))).add (((D3.sm io).sub (Pt u3 v3 t3)).sm (-1)) := by
    apply R3.ext' <;> (unfold R3.add R3.sub R3.sm; grind)
  rw [← e] at S
  have hfin := nbr (ble_is hk)
  have eN : Nat.mul hh (Nat.add (Nat.add df (Nat.mul 2 e2)) (Nat.add e1 e3)) = hh * (df + 2 * e2 + (e1 + e3)) := rfl
  have c17 : ((17162689314 : Nat) : Rat) = 17162689314 := rfl
  rw [eN, c17] at hfin
  simp only [Rat.natCast_add, Rat.natCast_mul, c2n] at hfin
  have S2 := (dv_io S).sm (k := (h : Rat) / 32) (K := (hh : Rat) / 32) ⟨by grind, by grind⟩
  refine S2.mono ?_
  have ei : 1 / io = 1 / 1073741824 := rfl
  rw [ei]
  grind
end
end Go.Proofs.Ytfkblhlkeglilaa

namespace Go.Proofs.Ytfkblhlkeglilaa
open Go.RowKit R3 Mt
set_option maxRecDepth 20000
attribute [local irreducible] D9 D7 UU WW W9 segF fop dirI
section
variable {L : List V3} {P : V3} {p : R3} {st h : Nat} {x y z u v t : Int} {ep : Nat}
theorem trs_run (hL : Ring12 L) (hw : Stw st h) (hE : Evw L) {D : R3} (ht : trs x y z u v t ep h = true) (hP : qv3 P p.x p.y p.z) (hp : p.sm io = Pt x y z) (hs : Sta p) (hD : qv3 (dirI (RW L) P) D.x D.y D.z) (h1 : One D) (hDU : nb ((D.sm io).sub (Pt u v t)) (ep : Rat)) : Run L st h 7 P p := by
  have hp0 : nb ((p.sm io).sub (Pt x y z)) ((0 : Nat) : Rat) := by
    rw [hp]
    have e : (Pt x y z).sub (Pt x y z) = R3.zero := by apply R3.ext' <;> (unfold R3.sub R3.zero; grind)
    rw [e]; exact nb_zero Rat.le_refl
  have hDm : Dom h 7 p := ⟨p, hs, by
    have e : p.sub p = R3.zero := by apply R3.ext' <;> (unfold R3.sub R3.zero; grind)
    have c7 : ((7 : Nat) : Rat) = 7 := rfl
    have e2 : (7 - ((7 : Nat) : Rat)) * ((h : Rat) / 16 * (10001 / 10000)) = 0 := by rw [c7]; grind
    rw [e, e2]; exact nb_zero Rat.le_refl⟩
  have h9 : nb p (97 / 10) := (sta_nb hs).mono (by decide +kernel)
  unfold trs at ht
  rcases or_is ht with hf | ht
  · exact far_fd hw hE (by decide) hf hP hp0 hDm
  · exact stp_run hL hw hE (by decide) (fun x y z e Q q a b c d => trk_run hL hw hE 6 (by decide) x y z e Q q a b c d) ht hP hp0 h9 hDm hD h1 hDU
theorem gr2_is {a b : Nat} (hg : gr2 x y z u v t ep a b = true) : grp x y z u v t ep a b = true ∨ grp x y z u v t ep a a = true ∧ grp x y z u v t ep b b = true := by
  unfold gr2 at hg
  rcases or_is hg with h | h
  · exact .inl h
  · exact .inr (and_is h)
theorem grs_is (hg : grs x y z u v t ep = true) (h4 : 4 ≤ h) (h8 : h ≤ 8) : ∃ hl hh, hl ≤ h ∧ h ≤ hh ∧ hh ≤ 8 ∧ 4 ≤ hl ∧ grp x y z u v t ep hl hh = true := by
  unfold grs at hg
  obtain ⟨ga, gb⟩ := and_is hg
  rcases Nat.lt_or_ge h 7 with h7 | h7
  · rcases or_is ga with g | g
    · exact ⟨4, 6, h4, by omega, by decide, by decide, g⟩
    obtain ⟨g1, g2⟩ := and_is g
    rcases Nat.lt_or_ge h 6 with h6 | h6
    · rcases gr2_is g1 with g | ⟨g, g'⟩
      · exact ⟨4, 5, h4, by omega, by decide, by decide, g⟩
      · rcases Nat.lt_or_ge h 5 with h5 | h5
        · exact ⟨4, 4, h4, by omega, by decide, by decide, g⟩
        · exact ⟨5, 5, h5, by omega, by decide, by decide, g'⟩
    · exact ⟨6, 6, h6, by omega, by decide, by decide, g2⟩
  · rcases gr2_is gb with g | ⟨g, g'⟩
    · exact ⟨7, 8, h7, h8, by decide, by decide, g⟩
    · rcases Nat.lt_or_ge h 8 with h9 | h9
      · exact ⟨7, 7, h7, by omega, by decide, by decide, g⟩
      · exact ⟨8, 8, h9, h8, by decide, by decide, g'⟩
/-- What a start has. -/
structure Start (L : List V3) (P : V3) (p : R3) : Prop where
  run : ∀ st h, Stw st h → Run L st h 7 P p
  fine : ∃ (u v t : Int) (ep : Nat) (x y z : Int) (D : R3), p.sm io = Pt x y z ∧ qv3 (dirI (RW L) P) D.x D.y D.z ∧ One D ∧ nb ((D.sm io).sub (Pt u v t)) (ep : Rat) ∧ ∀ h, 4 ≤ h → h ≤ 8 → ∃ hl hh, hl ≤ h ∧ h ≤ hh ∧ hh ≤ 8 ∧ 4 ≤ hl ∧ grp x y z u v t ep hl hh = true
theorem st0_start (hL : Ring12 L) (hE : Evw L) (h : st0 x y z = true) (hP : qv3 P p.x p.y p.z) (hp : p.sm io = Pt x y z) (hs : Sta p) : Start L P p := by
  unfold st0 at h
  obtain ⟨u, v, t, ep, hk, hb⟩ := dir_ball hL h
  have hp0 : nb ((p.sm io).sub (Pt x y z)) ((0 : Nat) : Rat) := by
    rw [hp]
    have e : (Pt x y z).sub (Pt x y z) = R3.zero := by apply R3.ext' <;> (unfold R3.sub R3.zero; grind)
    rw [e]; exact nb_zero Rat.le_refl
  obtain ⟨D, d1, d2, d3⟩ := hb P p hP hp0
  obtain ⟨k0, hk⟩ := and_is hk
  obtain ⟨k1, hk⟩ := and_is hk
  obtain ⟨k2, hk⟩ := and_is hk
  obtain ⟨k3, hk⟩ := and_is hk
  obtain ⟨k4, hk⟩ := and_is hk
  obtain ⟨k5, hk⟩ := and_is hk
  obtain ⟨k6, hk⟩ := and_is hk
  obtain ⟨k7, k8⟩ := and_is hk
  refine ⟨fun st h hw => ?_, u, v, t, ep, x, y, z, D, hp, d1, d2, d3, fun h h4 h8 => grs_is k0 h4 h8⟩
  have ht : trs x y z u v t ep h = true := by
    have h1 := hw.h1
    have h8 := hw.h8
    rcases (by omega : h = 1 ∨ h = 2 ∨ h = 3 ∨ h = 4 ∨ h = 5 ∨ h = 6 ∨ h = 7 ∨ h = 8) with e | e | e | e | e | e | e | e <;> (subst e; assumption)
  exact trs_run hL hw hE ht hP hp hs d1 d2 d3
end
end Go.Proofs.Ytfkblhlkeglilaa

namespace Go.Proofs.Ytfkblhlkeglilaa
open Go.RowKit R3 Mt
set_option maxRecDepth 20000
attribute [local irreducible] D9 D7 UU WW W9 segF fop dirI
/-- The words of a step of h sixteenths, whole and in parts. -/
structure Stf (st h : Nat) : Prop extends Stw st h where
  one : hN st 1 = st
  two : qv (hN st 2) ((h : Rat) / 32)
  four : qv (fop .mul .f32 1056964608 (hN st 2)) ((h : Rat) / 64)
  fn : fin st = true
section
variable {ws : List Wr} {L : List V3} {P : V3} {p : R3} {st h : Nat}
theorem stK_shift (g : stepOk ws P st = true) : ∀ i, stK ws P st (i + 1) = stK ws (endI ws P st) st i
  | 0 => by
    have e : stepV ws P st = endI ws P st := by unfold stepV; rw [g]; rfl
    rw [stK_succ (k := 0) rfl]
    show (stepV ws P st, stepOk ws P st) = (endI ws P st, true)
    rw [e, g]
  | i + 1 => by
    have ih := stK_shift g i
    show (if (stK ws P st (i + 1)).2 then _ else _) = (if (stK ws (endI ws P st) st i).2 then _ else _)
    rw [ih]
theorem qv3_uni {W : V3} {A B : R3} (h1 : qv3 W A.x A.y A.z) (h2 : qv3 W B.x B.y B.z) : A = B := dir_uni h1 h2
/-- All places of a line. -/
theorem path_run (h8 : h ≤ 8) : ∀ (n : Nat) (P : V3) (p : R3) (B : Rat), Run L st h n P p → qv3 P p.x p.y p.z → nb p B → ∀ i, i ≤ n →
    ((stK (RW L) P st i).2 = true ∧ ∃ a : R3, qv3 (stK (RW L) P st i).1 a.x a.y a.z ∧ nb a (B + (i : Rat) * (51 / 100))) ∧
    (i < n → stepOk (RW L) (stK (RW L) P st i).1 st = true ∧ ∀ a b : R3, qv3 (stK (RW L) P st i).1 a.x a.y a.z → qv3 (stK (RW L) P st (i + 1)).1 b.x b.y b.z → ∃ d, Fts a b d ((h : Rat) / 16))
  | n, P, p, B, hR, hP, hp, 0, _ => by
    have e0 : ((0 : Nat) : Rat) = 0 := rfl
    refine ⟨⟨rfl, p, hP, hp.mono (by rw [e0]; grind)⟩, fun hn => ?_⟩
    obtain ⟨m, rfl⟩ : ∃ m, n = m + 1 := ⟨n - 1, by omega⟩
    obtain ⟨h1, d, q, h2, h3, h4, _⟩ := hR
    refine ⟨h1, fun a b ha hb => ⟨d, h2, ?_⟩⟩
    rw [stK_shift h1 0] at hb
    have ea : a = p := qv3_uni ha hP
    have eb : b = q := qv3_uni hb h3
    rw [ea, eb]; exact h4
  | 0, _, _, _, _, _, _, i + 1, hi => absurd hi (by omega)
  | n + 1, P, p, B, hR, hP, hp, i + 1, hi => by
    obtain ⟨h1, d, q, h2, h3, h4, hR⟩ := hR
    have r8 : (h : Rat) ≤ 8 := nbr h8
    have r0 : (0 : Rat) ≤ (h : Rat) := Rat.natCast_nonneg
    have hd := ((one_nb6 h2).sm (k := (h : Rat) / 16) (K := 1 / 2) ⟨by grind, by grind⟩)
    have c0 : (700 : Rat) / io ≤ 1 / 1000 := by decide +kernel
    have hq : nb q (B + 51 / 100) := by
      have := (h4.mono c0).from (hp.add hd)
      exact this.mono (by grind)
    have ih := path_run h8 n (endI (RW L) P st) q (B + 51 / 100) hR h3 hq i (by omega)
    rw [stK_shift h1 i, stK_shift h1 (i + 1)]
    obtain ⟨⟨i1, a, i2, i3⟩, i4⟩ := ih
    refine ⟨⟨i1, a, i2, i3.mono ?_⟩, fun hn => i4 (by omega)⟩
    rw [Rat.natCast_add, c1n]; grind
/-- A step and two half steps end near one another. -/
theorem fine_real (hL : Ring12 L) (hE : Evw L) (hs : Stf st h) (S : Start L P p) (hP : qv3 P p.x p.y p.z) (hst : Sta p) (hF : Far p 1) :
    stepOk (RW L) P st = true ∧ stepOk (RW L) P (hN st 2) = true ∧ stepOk (RW L) (endI (RW L) P (hN st 2)) (hN st 2) = true ∧
    ∃ a b : R3, qv3 (endI (RW L) P st) a.x a.y a.z ∧ qv3 (endI (RW L) (endI (RW L) P (hN st 2)) (hN st 2)) b.x b.y b.z ∧ nb (a.sub b) (49961 / 100000) := by
  have h1 : (1 : Rat) ≤ (h : Rat) := nbr hs.h1
  have h8 : (h : Rat) ≤ 8 := nbr hs.h8
  have c0 : (700 : Rat) / io ≤ 66 / 100000000 := by decide +kernel
  have hn := sta_nb hst
  have e00 : p.sub p = R3.zero := by apply R3.ext' <;> (unfold R3.sub R3.zero; grind)
  have hpp : nb (p.sub p) 0 := by rw [e00]; exact nb_zero Rat.le_refl
  -- directions at places that are not too far away
  have D : ∀ {Q : V3} {q : R3}, qv3 Q q.x q.y q.z → nb (q.sub p) (6 / 10) → ∃ d : R3, qv3 (dirI (RW L) Q) d.x d.y d.z ∧ One d := fun hQ hq =>
    hE _ _ hQ (sta_box hst hq (by decide +kernel)).1 ((hF.near hq (by decide +kernel)).mono (by decide +kernel) (by decide +kernel))
  have nb9 : ∀ {q : R3}, nb (q.sub p) (6 / 10) → nb q (97 / 10) := fun hq => (hq.from hn).mono (by decide +kernel)
  have go : ∀ {q d r : R3} {σ B : Rat}, One d → 0 ≤ σ → nb (q.sub p) B → nb (r.sub (q.add (d.sm σ))) (700 / io) → nb (r.sub p) (B + σ * (1000001 / 1000000) + 66 / 100000000) := by
    intro q d r σ B hd hσ hq hr
    have k := hd
    have k1 := (one_nb6 hd).sm (k := σ) (K := σ) ⟨by grind, Rat.le_refl⟩
    have e : r.sub p = ((q.sub p).add (d.sm σ)).add (r.sub (q.add (d.sm σ))) := by apply R3.ext' <;> (unfold R3.add R3.sub R3.sm; grind)
    rw [e]
    exact (hq.add k1).add (hr.mono c0)
  obtain ⟨D0, d0, o0⟩ := D hP (hpp.mono (by decide +kernel))
  have n9 := nb9 (hpp.mono (B := 6 / 10) (by decide +kernel))
  obtain ⟨m1, qm1, e1⟩ := add_step (P := P) (Dw := dirI (RW L) P) hP d0 o0 hs.four (by grind) (by grind) n9
  have qm1 : qv3 (midI (RW L) P (hN st 2)) m1.x m1.y m1.z := qm1
  have f1 := go o0 (by grind) hpp e1
  obtain ⟨D1, d1, o1⟩ := D qm1 (f1.mono (by grind))
  obtain ⟨P1, qP1, eP⟩ := add_step (P := P) (Dw := dirI (RW L) (midI (RW L) P (hN st 2))) hP d1 o1 hs.two (by grind) (by grind) n9
  have qP1 : qv3 (endI (RW L) P (hN st 2)) P1.x P1.y P1.z := qP1
  have f2 := go o1 (by grind) hpp eP
  obtain ⟨D2, d2, o2⟩ := D qP1 (f2.mono (by grind))
  have n91 := nb9 (f2.mono (B := 6 / 10) (by grind))
  obtain ⟨m2, qm2, e2⟩ := add_step (P := endI (RW L) P (hN st 2)) (Dw := dirI (RW L) (endI (RW L) P (hN st 2))) qP1 d2 o2 hs.four (by grind) (by grind) n91
  have qm2 : qv3 (midI (RW L) (endI (RW L) P (hN st 2)) (hN st 2)) m2.x m2.y m2.z := qm2
  have f3 := go o2 (by grind) f2 e2
  obtain ⟨D3, d3, o3⟩ := D qm2 (f3.mono (by grind))
  obtain ⟨P2, qP2, e3⟩ := add_step (P := endI (RW L) P (hN st 2)) (Dw := dirI (RW L) (midI (RW L) (endI (RW L) P (hN st 2)) (hN st 2))) qP1 d3 o3 hs.two (by grind) (by grind) n91
  have qP2 : qv3 (endI (RW L) (endI (RW L) P (hN st 2)) (hN st 2)) P2.x P2.y P2.z := qP2
  obtain ⟨M, qM, eM⟩ := add_step (P := P) (Dw := dirI (RW L) P) hP d0 o0 hs.half (by grind) (by grind) n9
  have qM : qv3 (midI (RW L) P st) M.x M.y M.z := qM
  have f4 := go o0 (by grind) hpp eM
  obtain ⟨DM, dM, oM⟩ := D qM (f4.mono (by grind))
  obtain ⟨E, qE, eE⟩ := add_step (P := P) (Dw := dirI (RW L) (midI (RW L) P st)) hP dM oM hs.s (by grind) (by grind) n9
  have qE : qv3 (endI (RW L) P st) E.x E.y E.z := qE
  refine ⟨?_, ?_, ?_, E, P2, qE, qP2, ?_⟩
  · unfold stepOk dirOk
    rw [qv3_fin hP, qv3_fin d0, qv3_fin qM, qv3_fin dM, qv3_fin qE]; rfl
  · unfold stepOk dirOk
    rw [qv3_fin hP, qv3_fin d0, qv3_fin qm1, qv3_fin d1, qv3_fin qP1]; rfl
  · unfold stepOk dirOk
    rw [qv3_fin qP1, qv3_fin d2, qv3_fin qm2, qv3_fin d3, qv3_fin qP2]; rfl
  have key : nb (((DM.sm 2).sub (D1.add D3)).sm ((h : Rat) / 32)) (4996 / 10000) := by
    rcases Nat.lt_or_ge h 4 with h4 | h4
    · have r3 : (h : Rat) ≤ 3 := nbr (show h ≤ 3 by omega)
      have k := (((one_nb6 oM).sm (k := 2) (K := 2) ⟨by decide +kernel, Rat.le_refl⟩).sub ((one_nb6 o1).add (one_nb6 o3))).sm (k := (h : Rat) / 32) (K := 3 / 32) ⟨by grind, by grind⟩
      exact k.mono (by decide +kernel)
    · obtain ⟨u, v, t, ep, x, y, z, D', g1, g2, g3, g4, g5⟩ := S.fine
      obtain ⟨hl, hh, b1, b2, b3, b4, hg⟩ := g5 h h4 hs.h8
      have eD : D' = D0 := dir_uni g2 d0
      rw [eD] at g4
      exact grp_real hL b1 b2 b3 b4 g1 g4 ⟨qm1, qP1, qm2, qM, d1, d2, d3, dM, o0, o1, o2, o3, oM, e1, eP, e2, eM⟩ hg
  have e : E.sub P2 = (((E.sub (p.add (DM.sm ((h : Rat) / 16)))).sub (P2.sub (P1.add (D3.sm ((h : Rat) / 32))))).sub (P1.sub (p.add (D1.sm ((h : Rat) / 32))))).add (((DM.sm 2).sub (D1.add D3)).sm ((h : Rat) / 32)) := by
    apply R3.ext' <;> (unfold R3.add R3.sub R3.sm; grind)
  rw [e]
  exact ((((eE.mono c0).sub (e3.mono c0)).sub (eP.mono c0)).add key).mono (by decide +kernel)
end
end Go.Proofs.Ytfkblhlkeglilaa

namespace Go.Proofs.Ytfkblhlkeglilaa
open Go.RowKit R3 Mt
set_option maxRecDepth 20000
/-- The sum of the lengths. -/
def llS (L : List V3) : Nat → Nat
  | 0 => 0
  | k + 1 => fop .add .f32 (llS L k) (long3 (sub3 (L.getD (k + 1) z3) (L.getD k z3)))
theorem llS_succ (L : List V3) (k : Nat) : fop .add .f32 (llS L k) (long3 (sub3 (L.getD (k + 1) z3) (L.getD k z3))) = llS L (k + 1) := rfl
theorem llS_zero (L : List V3) : 0 = llS L 0 := rfl
/-- The way back: what one round of the loop makes of the best place and its distance. -/
def nbI (m : Nat) : Nat → Int
  | 0 => -1
  | _ + 1 => m
def nbF (d : Nat) : Nat → Nat
  | 0 => 0
  | _ + 1 => d
theorem eql_self {x : Nat} (h : fin x = true) : fcmp .eql .f32 x x = true := by
  show (FloatKind.f32.format.order x x == some .eq) = true
  rw [order_self (fin_nan h)]; rfl
/-- The cosine of a bend. -/
def bdQ (L : List V3) (i : Nat) : Nat := fop .quo .f32 (inner3 (sub3 (L.getD (i + 1) z3) (L.getD i z3)) (sub3 (L.getD (i + 2) z3) (L.getD (i + 1) z3))) (fop .mul .f32 (long3 (sub3 (L.getD (i + 1) z3) (L.getD i z3))) (long3 (sub3 (L.getD (i + 2) z3) (L.getD (i + 1) z3))))
def bdT (L : List V3) (i : Nat) (s : Nat × Bool) : Bool := fcmp .eql .f32 (bdQ L i) (bdQ L i) && (!s.2 || fcmp .lss .f32 (bdQ L i) s.1)
def bdK (L : List V3) : Nat → Nat × Bool
  | 0 => (1065353216, false)
  | k + 1 => if bdT L k (bdK L k) then (bdQ L k, true) else bdK L k
theorem bdK_yes {L : List V3} {k : Nat} (h : bdT L k (bdK L k) = true) : bdK L (k + 1) = (bdQ L k, true) := by
  show (if bdT L k (bdK L k) then (bdQ L k, true) else bdK L k) = _
  rw [h]; rfl
theorem bdK_no {L : List V3} {k : Nat} (h : bdT L k (bdK L k) = false) : bdK L (k + 1) = bdK L k := by
  show (if bdT L k (bdK L k) then (bdQ L k, true) else bdK L k) = _
  rw [h]; rfl
theorem bdK_zero (L : List V3) : bdK L 0 = (1065353216, false) := rfl
theorem bd1 {L : List V3} {k q : Nat} (hq : q = bdQ L k) (h : fcmp .eql .f32 q q = false) : bdK L (k + 1) = bdK L k := bdK_no (by unfold bdT; rw [← hq, h]; rfl)
theorem bd2 {L : List V3} {k q : Nat} (hq : q = bdQ L k) (h : fcmp .eql .f32 q q = true) (h2 : (bdK L k).2 = false) : bdK L (k + 1) = (q, true) := by
  rw [bdK_yes (by unfold bdT; rw [← hq, h, h2]; rfl), hq]
theorem bd3 {L : List V3} {k q : Nat} (hq : q = bdQ L k) (h : fcmp .eql .f32 q q = true) (h2 : fcmp .lss .f32 q (bdK L k).1 = true) : bdK L (k + 1) = (q, true) := by
  rw [bdK_yes (by unfold bdT; rw [← hq, h, h2, Bool.or_true]; rfl), hq]
theorem bd4 {L : List V3} {k q : Nat} (hq : q = bdQ L k) (h2 : (bdK L k).2 = true) (h3 : fcmp .lss .f32 q (bdK L k).1 = false) : bdK L (k + 1) = bdK L k := bdK_no (by unfold bdT; rw [← hq, h2, h3]; simp)
theorem bdQ_is (L : List V3) (i : Nat) : fop .quo .f32 (inner3 (sub3 (L.getD (i + 1) z3) (L.getD i z3)) (sub3 (L.getD (i + 2) z3) (L.getD (i + 1) z3))) (fop .mul .f32 (long3 (sub3 (L.getD (i + 1) z3) (L.getD i z3))) (long3 (sub3 (L.getD (i + 2) z3) (L.getD (i + 1) z3)))) = bdQ L i := rfl
/-- Every third place and the last one. -/
def thT (m k : Nat) : Bool := decide (k % 3 = 0) || decide (k + 1 = m)
def thK (L : List V3) (m : Nat) : Nat → List V3
  | 0 => []
  | k + 1 => if thT m k then thK L m k ++ [L.getD k z3] else thK L m k
theorem thK_zero (L : List V3) (m : Nat) : thK L m 0 = [] := rfl
theorem thK_yes {L : List V3} {m k : Nat} (h : k % 3 = 0 ∨ k + 1 = m) : thK L m (k + 1) = thK L m k ++ [L.getD k z3] := by
  show (if thT m k then thK L m k ++ [L.getD k z3] else thK L m k) = _
  rw [show thT m k = true by unfold thT; rcases h with h | h <;> simp [h]]; rfl
theorem thK_no {L : List V3} {m k : Nat} (h : k % 3 ≠ 0) (h2 : k + 1 ≠ m) : thK L m (k + 1) = thK L m k := by
  show (if thT m k then thK L m k ++ [L.getD k z3] else thK L m k) = _
  rw [show thT m k = false by unfold thT; simp [h, h2]]; rfl
theorem thK_facts (L : List V3) (m : Nat) : ∀ k, (thK L m (k + 1)).getD 0 z3 = L.getD 0 z3 ∧ 1 ≤ (thK L m (k + 1)).length ∧ (thK L m (k + 1)).length ≤ k + 1
  | 0 => by
    have e : thK L m 1 = [L.getD 0 z3] := by
      show (if thT m 0 then [] ++ [L.getD 0 z3] else []) = _
      rw [show thT m 0 = true by unfold thT; simp]; rfl
    rw [e]
    exact ⟨rfl, Nat.le_refl _, Nat.le_refl _⟩
  | k + 1 => by
    obtain ⟨h1, h2, h3⟩ := thK_facts L m k
    have e : thK L m (k + 1 + 1) = if thT m (k + 1) then thK L m (k + 1) ++ [L.getD (k + 1) z3] else thK L m (k + 1) := rfl
    rw [e]
    split
    · refine ⟨?_, by rw [List.length_append]; omega, by rw [List.length_append]; simp only [List.length_cons, List.length_nil]; omega⟩
      rw [List.getD_eq_getElem?_getD, List.getElem?_append_left (by omega), ← List.getD_eq_getElem?_getD]
      exact h1
    · exact ⟨h1, h2, by omega⟩
theorem thK_last (L : List V3) (m : Nat) : (thK L (m + 1) (m + 1)).getD ((thK L (m + 1) (m + 1)).length - 1) z3 = L.getD m z3 := by
  have e : thK L (m + 1) (m + 1) = thK L (m + 1) m ++ [L.getD m z3] := by
    show (if thT (m + 1) m then thK L (m + 1) m ++ [L.getD m z3] else thK L (m + 1) m) = _
    rw [show thT (m + 1) m = true by unfold thT; simp]; rfl
  rw [e, List.length_append]
  simp only [List.length_cons, List.length_nil, Nat.zero_add, Nat.add_sub_cancel]
  rw [List.getD_eq_getElem?_getD, List.getElem?_append_right (Nat.le_refl _)]
  simp
attribute [local irreducible] D9 D7 UU WW W9 segF fop dirI
/-- What is known of a line. -/
structure Path (L : List V3) (n : Nat) (σ : Rat) : Prop where
  len : L.length = n + 1
  plc : ∀ i, i ≤ n → ∃ a : R3, qv3 (L.getD i z3) a.x a.y a.z ∧ nb a (103 / 10)
  stp : ∀ i, i < n → ∀ a b : R3, qv3 (L.getD i z3) a.x a.y a.z → qv3 (L.getD (i + 1) z3) b.x b.y b.z → ∃ d, Fts a b d σ
section
variable {L : List V3} {n : Nat} {σ : Rat}
theorem Path.away (H : Path L n σ) (s0 : 1 / 16 ≤ σ) (s1 : σ ≤ 1 / 2) {a : R3} (ha : qv3 (L.getD 0 z3) a.x a.y a.z) : ∀ i, i ≤ n → ∀ b : R3, qv3 (L.getD i z3) b.x b.y b.z → nb (b.sub a) ((i : Rat) * (51 / 100))
  | 0, _, b, hb => by
    have e : b = a := qv3_uni hb ha
    have e0 : ((0 : Nat) : Rat) = 0 := rfl
    have e1 : a.sub a = R3.zero := by apply R3.ext' <;> (unfold R3.sub R3.zero; grind)
    rw [e, e0, e1, Rat.zero_mul]; exact nb_zero Rat.le_refl
  | i + 1, hi, b, hb => by
    obtain ⟨c, hc, _⟩ := H.plc i (by omega)
    have ih := Path.away H s0 s1 ha i (by omega) c hc
    obtain ⟨d, S⟩ := H.stp i (by omega) c b hc hb
    have k := (stp_v S s0 s1).2
    have e : b.sub a = (c.sub a).add (b.sub c) := by apply R3.ext' <;> (unfold R3.sub R3.add; grind)
    rw [e, Rat.natCast_add, c1n]
    exact (ih.add k).mono (by grind)
theorem ll_val (H : Path L n σ) (hn : n ≤ 7) (s0 : 1 / 16 ≤ σ) (s1 : σ ≤ 1 / 2) : ∀ k, k ≤ n → ∃ x, qv (llS L k) x ∧ Rg (x - (k : Rat) * σ) ((k : Rat) / 100000)
  | 0, _ => by
    have e0 : ((0 : Nat) : Rat) = 0 := rfl
    exact ⟨0, qv_zero, by rw [e0]; constructor <;> grind⟩
  | k + 1, hk => by
    obtain ⟨x, x1, x2⟩ := ll_val H hn s0 s1 k (by omega)
    obtain ⟨a, ha, _⟩ := H.plc k (by omega)
    obtain ⟨b, hb, _⟩ := H.plc (k + 1) (by omega)
    obtain ⟨d, S⟩ := H.stp k (by omega) a b ha hb
    obtain ⟨⟨y, y1, y2⟩, _⟩ := stp_len S s0 s1 ha hb
    have k7 : (k : Rat) ≤ 7 := nbr (show k ≤ 7 by omega)
    have k0 : (0 : Rat) ≤ (k : Rat) := Rat.natCast_nonneg
    have kσ := Rat.mul_le_mul_of_nonneg_left s1 k0
    have kσ0 := Rat.mul_nonneg k0 (show 0 ≤ σ by grind)
    obtain ⟨x3, x4⟩ := x2
    obtain ⟨y3, y4⟩ := y2
    have hxy : Rg (x + y) 5 := ⟨by grind, by grind⟩
    obtain ⟨z, z1, z2⟩ := rl_add x1 y1 (hxy.mono (by decide +kernel))
    have h9 := ab_le hxy
    have h8 := ab_nn (x + y)
    have hu : u24 = 1 / 16777216 := rfl
    have ht : tn ≤ 1 / 1000000000000 := by decide +kernel
    rw [hu] at z2
    obtain ⟨z3, z4⟩ := z2
    refine ⟨z, z1, ?_⟩
    rw [Rat.natCast_add, c1n]
    constructor <;> grind
theorem bd_val (H : Path L n σ) (s0 : 1 / 16 ≤ σ) (s1 : σ ≤ 1 / 2) {i : Nat} (hi : i + 2 ≤ n) : ∃ q, qv (bdQ L i) q ∧ q ≤ 10005 / 10000 := by
  obtain ⟨a, ha, _⟩ := H.plc i (by omega)
  obtain ⟨b, hb, _⟩ := H.plc (i + 1) (by omega)
  obtain ⟨c, hc, _⟩ := H.plc (i + 2) (by omega)
  obtain ⟨d, S⟩ := H.stp i (by omega) a b ha hb
  obtain ⟨d', S'⟩ := H.stp (i + 1) (by omega) b c hb hc
  obtain ⟨⟨x, x1, x2⟩, _⟩ := stp_len S s0 s1 ha hb
  obtain ⟨⟨y, y1, y2⟩, _⟩ := stp_len S' s0 s1 hb hc
  have v1 := (stp_v S s0 s1).2
  have w1 := (stp_v S' s0 s1).2
  have r1 := df_sub hb ha (v := b.sub a) rfl (v1.mono (by grind))
  have r2 := df_sub hc hb (v := c.sub b) rfl (w1.mono (by grind))
  obtain ⟨τ, t1, t2⟩ := inner_rel r1 r2
  have g1 := ga_le (b.sub a) (c.sub b)
  have g0 := ga_nn (b.sub a) (c.sub b)
  have dd := dot_le v1 w1
  obtain ⟨N, hN⟩ : ∃ N, N = (σ + 2 / 1000000) * (σ + 2 / 1000000) := ⟨_, rfl⟩
  have N0 : 0 ≤ N := by rw [hN]; exact Rat.mul_nonneg (by grind) (by grind)
  have g2 : ga (b.sub a) (c.sub b) ≤ N := by
    refine rsq_le N0 (Rat.le_trans g1 ?_)
    have k1 := Rat.mul_le_mul_of_nonneg_right v1.2 (dot_nn (c.sub b))
    have k2 := Rat.mul_le_mul_of_nonneg_left w1.2 N0
    rw [hN] at k2 ⊢
    exact Rat.le_trans k1 k2
  rw [← hN] at dd
  have hu : u24 = 1 / 16777216 := rfl
  have ht : 200 * tn ≤ 1 / 1000000000000 := by decide +kernel
  have ht0 := tn_0
  -- squares of the step
  obtain ⟨κ, hκ⟩ : ∃ κ, κ = σ * σ := ⟨_, rfl⟩
  have κ1 : σ ≤ 16 * κ := by rw [hκ]; have := Rat.mul_le_mul_of_nonneg_left s0 (show 0 ≤ σ by grind); grind
  have κ2 : 1 / 256 ≤ κ := by grind
  have κ9 : κ ≤ 1 / 4 := by rw [hκ]; have := rsq_mono (show 0 ≤ σ by grind) s1; grind
  have N9 : N ≤ κ * (1 + 1 / 10000) := by rw [hN]; grind
  obtain ⟨x3, x4⟩ := x2
  obtain ⟨y3, y4⟩ := y2
  have xy0 : κ * (1 - 2 / 10000) ≤ x * y := by
    have k1 := Rat.mul_le_mul_of_nonneg_left (show σ - 4 / 1000000 ≤ y by grind) (show 0 ≤ σ - 4 / 1000000 by grind)
    have k2 := Rat.mul_le_mul_of_nonneg_right (show σ - 4 / 1000000 ≤ x by grind) (show 0 ≤ y by grind)
    grind
  have xy9 : x * y ≤ 1 := by
    have k1 := Rat.mul_le_mul_of_nonneg_left (show y ≤ 1 by grind) (show 0 ≤ x by grind)
    grind
  obtain ⟨z, z1, z2⟩ := rl_mul x1 y1 (show Rg (x * y) _ from ⟨by grind, by grind⟩)
  rw [ab_pos (show 0 ≤ x * y by grind)] at z2
  have z3 : κ * (1 - 3 / 10000) ≤ z := by
    obtain ⟨g, _⟩ := z2
    rw [hu] at g
    grind
  have z0 : 0 < z := by grind
  have hτ : Rg τ (κ * (1 + 11 / 100000)) := by
    obtain ⟨h1, h2⟩ := t2
    obtain ⟨h3, h4⟩ := dd
    rw [hu] at h1 h2
    constructor <;> grind
  obtain ⟨q, q1, q2⟩ := rl_quo t1 z1 z0 (by obtain ⟨h1, h2⟩ := hτ; constructor <;> grind)
  refine ⟨q, q1, ?_⟩
  obtain ⟨_, q4⟩ := q2
  have h9 := ab_le hτ
  have h8 := ab_nn τ
  have ht2 : tn ≤ 1 / 1000000000000 := by decide +kernel
  have tz := Rat.mul_le_mul_of_nonneg_right ht2 (Rat.le_of_lt z0)
  obtain ⟨_, h2⟩ := hτ
  rw [hu] at q4
  refine Rat.le_of_mul_le_mul_right (c := z) ?_ z0
  grind
theorem bdK_val (H : Path L n σ) (s0 : 1 / 16 ≤ σ) (s1 : σ ≤ 1 / 2) : ∀ k, k ≤ n - 1 → ∃ r, qv (bdK L k).1 r ∧ r ≤ 10005 / 10000
  | 0, _ => ⟨1, qv_one2, by decide +kernel⟩
  | k + 1, hk => by
    have e : bdK L (k + 1) = if bdT L k (bdK L k) then (bdQ L k, true) else bdK L k := rfl
    rw [e]
    split
    · exact bd_val H s0 s1 (by omega)
    · exact bdK_val H s0 s1 k (by omega)
end
end Go.Proofs.Ytfkblhlkeglilaa

namespace Go.Proofs.Ytfkblhlkeglilaa
open Go.RowKit R3 Mt
set_option maxRecDepth 20000
def lzX (i : Nat) : Nat := fop .add .f32 (qw i) 1082130432
def sP (i j k : Nat) : V3 := (lzX i, qw j, qw k)
def stw (s : Nat) : Nat := fop .quo .f32 (FloatKind.f32.nearest ((1 + s : Nat) : Int)) 1098907648
theorem sP_tab : ∀ i : Fin 17, (vj (qw i) (((i.val : Int) - 8) * 268435456) && vj (lzX i) (((i.val : Int) + 8) * 268435456)) = true := by decide +kernel
theorem stw_tab : ∀ s : Fin 8, (vj (stw s) (((s.val : Int) + 1) * 67108864) && vj (fop .mul .f32 1056964608 (stw s)) (((s.val : Int) + 1) * 33554432) && decide (hN (stw s) 1 = stw s) && vj (hN (stw s) 2) (((s.val : Int) + 1) * 33554432) && vj (fop .mul .f32 1056964608 (hN (stw s) 2)) (((s.val : Int) + 1) * 16777216) && fin (stw s)) = true := by decide +kernel
theorem cnt_tab : ∀ n : Fin 8, (decide (rng FloatKind.f64.format (FloatKind.f64.nearest (n.val : Int)) < FloatKind.f64.format.infRung) && decide (sval FloatKind.f64.format (FloatKind.f64.nearest (n.val : Int)) = (n.val : Int) * 2 ^ 1074)) = true := by decide +kernel
theorem cnt_dv {n : Nat} (hn : n < 8) : dv (FloatKind.f64.nearest (n : Int)) (n : Rat) := by
  have h := cnt_tab ⟨n, hn⟩
  simp only [Bool.and_eq_true, decide_eq_true_eq] at h
  refine ⟨_, ⟨h.1, h.2⟩, ?_⟩
  have e3 : W9 = (((2 : Int) ^ 1074 : Int) : Rat) := by decide +kernel
  rw [e3, Rat.intCast_mul]; rfl
attribute [local irreducible] D9 D7 UU WW W9 segF fop dirI
theorem stw_stf {s : Nat} (hs : s < 8) : Stf (stw s) (s + 1) := by
  have h := stw_tab ⟨s, hs⟩
  simp only [Bool.and_eq_true, decide_eq_true_eq] at h
  obtain ⟨⟨⟨⟨⟨h1, h2⟩, h3⟩, h4⟩, h5⟩, h6⟩ := h
  have c1 : ∀ c : Int, (((((s : Int) + 1) * c : Int)) : Rat) = ((s : Rat) + 1) * (c : Rat) := fun c => by
    rw [Rat.intCast_mul, Rat.intCast_add]; rfl
  have e1 : (((67108864 : Int) : Rat)) = 67108864 := rfl
  have e2 : (((33554432 : Int) : Rat)) = 33554432 := rfl
  have e4 : (((16777216 : Int) : Rat)) = 16777216 := rfl
  have ei : 1 / io = 1 / 1073741824 := rfl
  have k1 := vj_qv h1
  have k2 := vj_qv h2
  have k4 := vj_qv h4
  have k5 := vj_qv h5
  rw [c1, e1, ei] at k1
  rw [c1, e2, ei] at k2
  rw [c1, e2, ei] at k4
  rw [c1, e4, ei] at k5
  have es : ((s + 1 : Nat) : Rat) = (s : Rat) + 1 := by rw [Rat.natCast_add, c1n]
  have cv : ∀ {w : Nat} {a b : Rat}, qv w a → a = b → qv w b := fun h e => e ▸ h
  exact { s := cv k1 (by rw [es]; grind), half := cv k2 (by rw [es]; grind), h1 := by omega, h8 := by omega, one := h3, two := cv k4 (by rw [es]; grind), four := cv k5 (by rw [es]; grind), fn := h6 }
/-- The real start. -/
def sR (i j k : Nat) : R3 := (Pt (((i : Int) + 8) * 268435456) (((j : Int) - 8) * 268435456) (((k : Int) - 8) * 268435456)).sm (1 / io)
section
variable {i j k : Nat}
theorem sP_qv (hi : i < 17) (hj : j < 17) (hk : k < 17) : qv3 (sP i j k) (sR i j k).x (sR i j k).y (sR i j k).z := by
  have h1 := sP_tab ⟨i, hi⟩
  have h2 := sP_tab ⟨j, hj⟩
  have h3 := sP_tab ⟨k, hk⟩
  simp only [Bool.and_eq_true] at h1 h2 h3
  have k1 := vj_qv h1.2
  have k2 := vj_qv h2.1
  have k3 := vj_qv h3.1
  rw [Rat.mul_comm] at k1 k2 k3
  exact ⟨k1, k2, k3⟩
theorem sR_x : (sR i j k).x = ((i : Rat) + 8) / 4 := by
  show 1 / io * ((((i : Int) + 8) * 268435456 : Int) : Rat) = _
  have ei : 1 / io = 1 / 1073741824 := rfl
  have e : (((((i : Int) + 8) * 268435456 : Int)) : Rat) = ((i : Rat) + 8) * 268435456 := by rw [Rat.intCast_mul, Rat.intCast_add]; rfl
  rw [e, ei]; grind
theorem sR_y : (sR i j k).y = ((j : Rat) - 8) / 4 := by
  show 1 / io * ((((j : Int) - 8) * 268435456 : Int) : Rat) = _
  have ei : 1 / io = 1 / 1073741824 := rfl
  have e : (((((j : Int) - 8) * 268435456 : Int)) : Rat) = ((j : Rat) - 8) * 268435456 := by rw [Rat.intCast_mul, Rat.intCast_sub]; rfl
  rw [e, ei]; grind
theorem sR_z : (sR i j k).z = ((k : Rat) - 8) / 4 := by
  show 1 / io * ((((k : Int) - 8) * 268435456 : Int) : Rat) = _
  have ei : 1 / io = 1 / 1073741824 := rfl
  have e : (((((k : Int) - 8) * 268435456 : Int)) : Rat) = ((k : Rat) - 8) * 268435456 := by rw [Rat.intCast_mul, Rat.intCast_sub]; rfl
  rw [e, ei]; grind
theorem sR_sta (hi : i < 17) (hj : j < 17) (hk : k < 17) : Sta (sR i j k) := by
  have r1 : (i : Rat) ≤ 16 := nbr (show i ≤ 16 by omega)
  have r2 : (j : Rat) ≤ 16 := nbr (show j ≤ 16 by omega)
  have r3 : (k : Rat) ≤ 16 := nbr (show k ≤ 16 by omega)
  have p1 : (0 : Rat) ≤ (i : Rat) := Rat.natCast_nonneg
  have p2 : (0 : Rat) ≤ (j : Rat) := Rat.natCast_nonneg
  have p3 : (0 : Rat) ≤ (k : Rat) := Rat.natCast_nonneg
  refine ⟨?_, ?_, ?_, ?_⟩
  · rw [sR_x]; grind
  · rw [sR_x]; grind
  · rw [sR_y]; constructor <;> grind
  · rw [sR_z]; constructor <;> grind
theorem sta_far {p : R3} (h : Sta p) : Far p 1 := by
  intro q q0 _ q2
  have e : (p.sub q).dot (p.sub q) = (p.x - q.x) * (p.x - q.x) + (p.y - q.y) * (p.y - q.y) + (p.z - q.z) * (p.z - q.z) := by unfold R3.dot R3.sub; grind
  have s2 := sq_nn (p.y - q.y)
  have s3 := sq_nn (p.z - q.z)
  have qx : q.x ≤ 1 := by
    refine rsq_le (by decide) ?_
    have := sq_nn q.y
    have := sq_nn q.z
    unfold R3.dot at q2
    grind
  have := rsq_mono (a := 1) (b := p.x - q.x) (by decide) (by have := h.x1; grind)
  rw [e]; grind
/-- The table of starts. -/
def StartT : Prop := ∀ i j k : Nat, i < 17 → j < 17 → k < 17 → stq ((i : Int) - 8) ((j : Int) - 8) ((k : Int) - 8) = true
theorem start_of (hT : StartT) (hL : Ring12 (icL 12)) (hE : Evw (icL 12)) (hi : i < 17) (hj : j < 17) (hk : k < 17) : Start (icL 12) (sP i j k) (sR i j k) := by
  have h := hT i j k hi hj hk
  unfold stq at h
  rw [forceI_is, forceI_is, forceI_is] at h
  have e1 : Int.mul (Int.add ((i : Int) - 8) (Int.ofNat 16)) (Int.ofNat 268435456) = ((i : Int) + 8) * 268435456 := by
    show ((i : Int) - 8 + 16) * 268435456 = _
    omega
  rw [e1] at h
  refine st0_start hL hE h (sP_qv hi hj hk) ?_ (sR_sta hi hj hk)
  have hio := io_inv
  unfold sR
  obtain ⟨t, ht⟩ : ∃ t, t = 1 / io := ⟨_, rfl⟩
  rw [← ht] at hio ⊢
  generalize Pt (((i : Int) + 8) * 268435456) (((j : Int) - 8) * 268435456) (((k : Int) - 8) * 268435456) = A
  apply R3.ext'
  · show io * (t * A.x) = A.x
    grind
  · show io * (t * A.y) = A.y
    grind
  · show io * (t * A.z) = A.z
    grind
end
end Go.Proofs.Ytfkblhlkeglilaa

namespace Go.Proofs.Ytfkblhlkeglilaa
open Go.RowKit R3 Mt
set_option maxRecDepth 20000
def lnK (P : V3) (st i : Nat) : V3 := (stK (RW (icL 12)) P st i).1
def lnQ (P : V3) (st n : Nat) : List V3 := lnL (RW (icL 12)) P st n
def fnP (P : V3) (st : Nat) : V3 := (stN (RW (icL 12)) P st 2).1
/-- Two numbers that are near one another, in doubles. -/
def GapF (x y : Nat) : Prop := fnan .f64 (fop .sub .f64 x y) = false ∧ fnan .f64 (fop .sub .f64 y x) = false ∧ fcmp .gtr .f64 (gap64 x y) 4562254508917369340 = false
structure LnF (P : V3) (st n : Nat) : Prop where
  pf : fin3 P = true
  sf : fin st = true
  len : (lnQ P st n).length = n + 1
  get : ∀ i, i ≤ n → (lnQ P st n).getD i z3 = lnK P st i
  k0 : lnK P st 0 = P
  fl : flineOk (RW (icL 12)) P st (n : Int) = true ∧ flineV (RW (icL 12)) P st (n : Int) = lnQ P st n
  sl : ∀ i, i < 7 → slOk (RW (icL 12)) (lnK P st i) st = true ∧ slV (RW (icL 12)) (lnK P st i) st = lnK P st (i + 1)
  fs : fsB (RW (icL 12)) P st 1056964608 = true ∧ fsN (RW (icL 12)) P st 1056964608 = 1 ∧ fsV (RW (icL 12)) P st 1056964608 = fnP P st
  fi : fiOk (RW (icL 12)) P st 1056964608 1 = true ∧ fiV (RW (icL 12)) P st 1056964608 1 = [P, fnP P st] ∧ fiS (RW (icL 12)) P st 1056964608 1 = 1
  kf : ∀ i, i ≤ 7 → fin3 (lnK P st i) = true
  ff : fin3 (fnP P st) = true
  ll : fin (llS (lnQ P st n) n) = true
  lg : GapF (up (llS (lnQ P st n) n)) (fop .mul .f64 (up st) (FloatKind.f64.nearest (n : Int)))
  ag : GapF (up (long3 (sub3 P (lnK P st 1)))) (up st)
  fg : fcmp .gtr .f64 (up (long3 (sub3 (fnP P st) (lnK P st 1)))) 4602678819172646912 = false
  nd : fin (long3 (sub3 (lnK P st n) P)) = true
  ng : GapF (up (long3 (sub3 (lnK P st n) P))) (up (long3 (sub3 (lnK P st n) P)))
  bf : fin (bdK (lnQ P st n) (n - 1)).1 = true
  bg : fcmp .gtr .f64 (up (bdK (lnQ P st n) (n - 1)).1) 4607186922399644778 = false
theorem lh_ok : least 1056964608 = true := by decide +kernel
theorem lnL_two (ws : List Wr) (P : V3) (st near : Nat) : fiL ws P st near 1 = [(fiK ws P st near 0).1, (fiK ws P st near 1).1] := rfl
attribute [local irreducible] D9 D7 UU WW W9 segF fop dirI
theorem ln_facts (hT : StartT) (hS : SlabT) {i j k s n : Nat} (hi : i < 17) (hj : j < 17) (hk : k < 17) (hs : s < 8) (hn : n < 8) : LnF (sP i j k) (stw s) n := by
  have hL := ic_ring
  have hE := evw_all hL hS
  have S := start_of hT hL hE hi hj hk
  have W := stw_stf hs
  have hP := sP_qv hi hj hk
  have hst := sR_sta hi hj hk
  generalize sP i j k = P at *
  generalize sR i j k = p at *
  generalize stw s = st at *
  obtain ⟨h, hh⟩ : ∃ h, h = s + 1 := ⟨_, rfl⟩
  rw [← hh] at W
  have r1 : (1 : Rat) ≤ (h : Rat) := nbr W.h1
  have r8 : (h : Rat) ≤ 8 := nbr W.h8
  obtain ⟨σ, hσ⟩ : ∃ σ : Rat, σ = (h : Rat) / 16 := ⟨_, rfl⟩
  have s0 : 1 / 16 ≤ σ := by rw [hσ]; grind
  have s1 : σ ≤ 1 / 2 := by rw [hσ]; grind
  have Ws := W.s
  rw [← hσ] at Ws
  have R := S.run st h W.toStw
  have pth := path_run W.h8 7 P p (6635 / 1000) R hP (sta_nb hst)
  rw [← hσ] at pth
  have pf := qv3_fin hP
  have hok : ∀ m, m ≤ 7 → (stK (RW (icL 12)) P st m).2 = true := fun m hm => (pth m hm).1.1
  have hfin : ∀ m, m ≤ 7 → fin3 (lnK P st m) = true := fun m hm => by
    obtain ⟨_, a, ha, _⟩ := (pth m hm).1
    exact qv3_fin ha
  have hstep : ∀ m, m < 7 → stepOk (RW (icL 12)) (lnK P st m) st = true ∧ lnK P st (m + 1) = stepV (RW (icL 12)) (lnK P st m) st := fun m hm => by
    refine ⟨((pth m (by omega)).2 hm).1, ?_⟩
    exact (stK_box (hok m (by omega))).symm
  have hend : ∀ m, m < 7 → lnK P st (m + 1) = endI (RW (icL 12)) (lnK P st m) st := fun m hm => by
    rw [(hstep m hm).2]
    unfold stepV
    rw [(hstep m hm).1]; rfl
  have gt : ∀ m, m ≤ n → (lnQ P st n).getD m z3 = lnK P st m := fun m hm => lnL_get (by omega)
  have H : Path (lnQ P st n) n σ := ⟨lnL_length, fun m hm => by
    obtain ⟨_, a, ha, hb⟩ := (pth m (by omega)).1
    refine ⟨a, by rw [gt m hm]; exact ha, hb.mono ?_⟩
    have : (m : Rat) ≤ 7 := nbr (show m ≤ 7 by omega)
    grind, fun m hm => by
    intro a b ha hb
    rw [gt m (by omega)] at ha
    rw [gt (m + 1) (by omega)] at hb
    exact ((pth m (by omega)).2 (by omega)).2 a b ha hb⟩
  -- steps in parts
  obtain ⟨F1, F2, F3, a, b, Fa, Fb, Fab⟩ := fine_real hL hE W S hP hst (sta_far hst)
  have eN1 : stN (RW (icL 12)) P st 1 = (endI (RW (icL 12)) P st, true) := by
    show stK (RW (icL 12)) P (hN st 1) 1 = _
    rw [W.one, stK_shift F1 0]; rfl
  have eN2 : stN (RW (icL 12)) P st 2 = (endI (RW (icL 12)) (endI (RW (icL 12)) P (hN st 2)) (hN st 2), true) := by
    show stK (RW (icL 12)) P (hN st 2) 2 = _
    rw [stK_shift F2 1, stK_shift F3 0]; rfl
  have hk1 : lnK P st 1 = endI (RW (icL 12)) P st := hend 0 (by decide)
  have hab : (a.sub b).dot (a.sub b) = (b.sub a).dot (b.sub a) := dot_swap
  have Fba : nb (b.sub a) (49961 / 100000) := ⟨Fab.1, by rw [← hab]; exact Fab.2⟩
  obtain ⟨x, x1, x2⟩ := long_any Fa Fb rfl Fab (by decide +kernel) (by decide +kernel)
  obtain ⟨y, y1, y2⟩ := long_any Fb Fa rfl Fba (by decide +kernel) (by decide +kernel)
  have fo : fineOk (RW (icL 12)) P st 1056964608 0 = true := by
    unfold fineOk
    show ((stN (RW (icL 12)) P st 1).2 && (stN (RW (icL 12)) P st 2).2 && fcmp .leq .f32 (long3 (sub3 (stN (RW (icL 12)) P st 1).1 (stN (RW (icL 12)) P st 2).1)) 1056964608) = true
    rw [eN1, eN2]
    simp only [Bool.true_and]
    exact qv_le x1 ln_hf (Rat.le_trans x2.2 (by decide +kernel))
  have hI : fnI (RW (icL 12)) P st 1056964608 = ((0 : Nat) : Int) := idxI_of (fun j hj => absurd hj (by omega)) fo (by decide)
  have hB : fnB (RW (icL 12)) P st 1056964608 = true := by unfold fnB; rw [hI]; rfl
  have hN1 : fnN (RW (icL 12)) P st 1056964608 = 1 := by unfold fnN; rw [hB, hI]; rfl
  have hV : fnV (RW (icL 12)) P st 1056964608 = fnP P st := by unfold fnV; rw [hB, hI]; rfl
  have fa : fineArgs (RW (icL 12)) P st 1056964608 = true := fa_yes ic_wires pf W.fn lh_ok
  have fK : fiK (RW (icL 12)) P st 1056964608 1 = (fnP P st, 1, true) := by
    rw [fiK_succ (k := 0) rfl]
    show (fnV (RW (icL 12)) P st 1056964608, 0 + fnN (RW (icL 12)) P st 1056964608, fnB (RW (icL 12)) P st 1056964608) = _
    rw [hV, hN1, hB]
  have fO : fiOk (RW (icL 12)) P st 1056964608 1 = true := fi_yes fa (by decide)
  have fM : fiM (RW (icL 12)) P st 1056964608 (1 : Int).toNat = 1 := fiM_all (n := 1) fun j hj => by
    have : j = 0 := by omega
    rw [this, fK]
  have eP2 : fnP P st = endI (RW (icL 12)) (endI (RW (icL 12)) P (hN st 2)) (hN st 2) := by unfold fnP; rw [eN2]
  -- lengths
  obtain ⟨l, l1, l2⟩ := ll_val H (by omega) s0 s1 n (Nat.le_refl _)
  have n7 : (n : Rat) ≤ 7 := nbr (show n ≤ 7 by omega)
  have n0 : (0 : Rat) ≤ (n : Rat) := Rat.natCast_nonneg
  have nσ := Rat.mul_le_mul_of_nonneg_left s1 n0
  have nσ0 := Rat.mul_nonneg n0 (show 0 ≤ σ by grind)
  obtain ⟨l3, l4⟩ := l2
  obtain ⟨m, m1, m2, m3⟩ := dv_mul2 (k := 2) (K := 4) (show (4 : Rat) = ((2 ^ 2 : Nat) : Rat) by decide +kernel) (by decide) (qv_up Ws) (cnt_dv hn) (by grind) (by grind)
  -- the first step
  obtain ⟨a0, ha0, hb0⟩ := (pth 0 (by decide)).1.2
  obtain ⟨a1, ha1, hb1⟩ := (pth 1 (by decide)).1.2
  obtain ⟨d, F⟩ := ((pth 0 (by decide)).2 (by decide)).2 a0 a1 ha0 ha1
  obtain ⟨_, z, z1, z2⟩ := stp_len F s0 s1 ha0 ha1
  -- the way back
  obtain ⟨c, hc, _⟩ := H.plc n (Nat.le_refl _)
  obtain ⟨c0, hc0, _⟩ := H.plc 0 (Nat.zero_le _)
  have aw := Path.away H s0 s1 hc0 n (Nat.le_refl _) c hc
  rw [gt n (Nat.le_refl _)] at hc
  rw [gt 0 (Nat.zero_le _)] at hc0
  obtain ⟨w, w1, w2⟩ := long_any hc hc0 rfl (aw.mono (B := 4) (by grind)) (by decide +kernel) (by decide +kernel)
  have w3 : Rg w 16 := w2.mono (by decide +kernel)
  -- bends
  obtain ⟨r, b1, b2⟩ := bdK_val H s0 s1 (n - 1) (Nat.le_refl _)
  exact
   { pf := pf, sf := W.fn, len := lnL_length, get := gt, k0 := rfl
     fl := by
      have h4 : flineOk (RW (icL 12)) P st (n : Int) = true := fline_yes ic_wires pf W.fn (decide_eq_true (by omega))
      refine ⟨h4, ?_⟩
      rw [flineV_yes h4, Int.toNat_natCast, lnR_all fun j hj => hok (j + 1) (by omega)]
      rfl
     sl := fun m hm => by
      have h1 : slOk (RW (icL 12)) (lnK P st m) st = true := by
        unfold slOk
        rw [ic_wires, hfin m (by omega), W.fn, (hstep m hm).1]; rfl
      refine ⟨h1, ?_⟩
      unfold slV
      rw [h1, (hstep m hm).2]; rfl
     fs := by
      refine ⟨?_, ?_, ?_⟩
      · unfold fsB; rw [fa, hB]; rfl
      · unfold fsN; rw [fa]; exact hN1
      · unfold fsV; rw [fa]; exact hV
     fi := by
      refine ⟨fO, ?_, ?_⟩
      · rw [fiV_yes fO fM, lnL_two, fK]; rfl
      · rw [fiS_yes fO fM, fK]
     kf := hfin
     ff := by rw [eP2]; exact qv3_fin Fb
     ll := qv_fin2 l1
     lg := ln_gap (qv_up l1) m1 ⟨by grind, by grind⟩ ⟨by grind, by grind⟩ ⟨by grind, by grind⟩
     ag := by
      have z3 := z2.mono (B := 9 / 10000) (by decide +kernel)
      obtain ⟨z4, z5⟩ := z3
      exact ln_gap (qv_up z1) (qv_up Ws) ⟨by grind, by grind⟩ ⟨by grind, by grind⟩ ⟨z4, z5⟩
     fg := by
      rw [eP2, hk1]
      exact dv_ngt (qv_up y1) ln_mh (Rat.le_trans y2.2 (by decide +kernel))
     nd := qv_fin2 w1
     ng := ln_gap (qv_up w1) (qv_up w1) w3 w3 (by
      have : w - w = 0 := by grind
      rw [this]; constructor <;> decide +kernel)
     bf := qv_fin2 b1
     bg := dv_ngt (qv_up b1) ln_m2 (Rat.le_trans b2 (by decide +kernel)) }
end Go.Proofs.Ytfkblhlkeglilaa

namespace Go.Proofs.Ytfkblhlkeglilaa
open Go.RowKit
set_option linter.unusedVariables false
set_option linter.unusedSimpArgs false
set_option maxRecDepth 20000
theorem known20_Lv : Known Try.prog 20 := Known.mk' Try.func20 (by kernel_rfl)
theorem known38_Lv : Known Try.prog 38 := Known.mk' Try.func38 (by kernel_rfl)
theorem known35_Lv : Known Try.prog 35 := Known.mk' Try.func35 (by kernel_rfl)
theorem zero27_Lv : (Try.prog.info? 27).bind (·.zero) = some (Value.agg #[Value.slice none 0 0, Value.bool false, Value.float .f32 0]) := by kernel_rfl
theorem known18_Lv : Known Try.prog 18 := Known.mk' Try.func18 (by kernel_rfl)
theorem known19_Lv : Known Try.prog 19 := Known.mk' Try.func19 (by kernel_rfl)
theorem lay27_Lv : Lay Try.prog 27 [Value.slice none 0 0, Value.bool false, Value.float .f32 0] [(0, 1), (1, 1), (2, 1)] := Lay.mk' (by kernel_rfl) (by kernel_rfl)
theorem sz27_Lv : (Try.prog.info? 27).map (·.size) = some 3 := by kernel_rfl
theorem mixed_Lv : Try.prog.follows .mixedOrders = true := by kernel_rfl
theorem sz24_Lv : (Try.prog.info? 24).map (·.size) = some 1 := by kernel_rfl
theorem fb24_Lv : flatB Try.prog 24 = true := by kernel_rfl
theorem known21_Lv : Known Try.prog 21 := Known.mk' Try.func21 (by kernel_rfl)
theorem lay32_Lv : Lay Try.prog 32 [Value.float .f32 0, Value.float .f32 0, Value.float .f32 0] [(0, 1), (1, 1), (2, 1)] := Lay.mk' (by kernel_rfl) (by kernel_rfl)
theorem elt32_Lv : Elt Try.prog 32 [Value.float .f32 0, Value.float .f32 0, Value.float .f32 0] 12 := Elt.mk' (by kernel_rfl) (by decide)
theorem known22_Lv : Known Try.prog 22 := Known.mk' Try.func22 (by kernel_rfl)
attribute [local irreducible] fop fcmp fconv fneg fabs List.getD
theorem c_icSine {w : World} {x : Nat} {i : Int} (hok : imOk x i = true) : Pure Try.prog 21 [.float .f32 x] w (.float .f32 (imW x i)) := by
  refine Pure.enter Try.func21 rfl Try.ntmps21 (Nat.le_of_ble_eq_true rfl) ?_
  obtain ⟨k1, k2, k3, k4, k5⟩ := im_is hok
  refine V.seq ?_
  refine V.region ?_
  refine VL.r (.inl rfl) rfl (by decide) (yr_assign (u := .float .f32 0) rfl rfl) ?_
  refine VL.nil ?_
  refine VE.then_wp ?_
  refine V.seq ?_
  refine V.seq ?_
  refine V.region ?_
  refine VL.r (.inl rfl) rfl (by decide) (yr_move rfl rfl) ?_
  refine VL.q (.inl rfl) rfl (by decide) (yq_callf rfl known20_Lv (.cons rfl .nil) (fun w hw => c_IsFinite _)) ?_
  refine VL.r (.inl rfl) rfl (by decide) (yr_not rfl rfl) ?_
  refine VL.nil ?_
  refine VE.then_wp ?_
  refine V.cond rfl (fun h1 => ?_) (fun h1 => ?_)
  · skip
    replace h1 := bnot_t h1
    rw [k1] at h1; cases h1
  replace h1 := bnot_f h1
  refine V.skip ?_
  refine VE.then_wp ?_
  refine V.seq ?_
  refine V.region ?_
  refine VL.r (.inl rfl) rfl (by decide) (yr_move rfl rfl) ?_
  refine VL.r (.inl rfl) rfl (by decide) (yr_fconv rfl Try.underlying25 Try.underlying45 (by decide) rfl (fover_up _)) ?_
  refine VL.r (.inl rfl) rfl (by decide) (yr_assign rfl rfl) ?_
  refine VL.nil ?_
  refine VE.then_wp ?_
  refine V.seq ?_
  refine V.seq ?_
  refine V.region ?_
  refine VL.r (.inl rfl) rfl (by decide) (yr_move rfl rfl) ?_
  refine VL.q (.inl rfl) rfl (by decide) (yq_callf rfl known38_Lv (.cons rfl .nil) (fun w hw => c_abs _)) ?_
  refine VL.r (.inl rfl) rfl (by decide) (yr_fcmp (b := 4841369599423283200) rfl (.inr (.inr (.inr (.inr (.inr rfl))))) rfl rfl) ?_
  refine VL.nil ?_
  refine VE.then_wp ?_
  refine V.cond rfl (fun h2 => ?_) (fun h2 => ?_)
  · skip
    rw [k2] at h2; cases h2
  refine V.skip ?_
  refine VE.then_wp ?_
  refine V.seq ?_
  refine V.region ?_
  refine VL.r (.inl rfl) rfl (by decide) (yr_move rfl rfl) ?_
  refine VL.r (.inl rfl) rfl (by decide) (yr_move rfl rfl) ?_
  refine VL.r (.inl rfl) rfl (by decide) (yr_toInt (i := i) rfl Try.underlying45 Try.underlying2 rfl k3) ?_
  refine VL.r (.inl rfl) rfl (by decide) (yr_ofInt rfl Try.underlying2 Try.underlying45 rfl) ?_
  refine VL.r (.inl rfl) rfl (by decide) (yr_float rfl (.inr (.inl rfl)) rfl rfl) ?_
  refine VL.r (.inl rfl) rfl (by decide) (yr_assign rfl rfl) ?_
  refine VL.nil ?_
  refine VE.then_wp ?_
  refine V.seq ?_
  refine V.seq ?_
  refine V.region ?_
  refine VL.r (.inl rfl) rfl (by decide) (yr_move rfl rfl) ?_
  refine VL.r (.inl rfl) rfl (by decide) (yr_fcmp (b := 0) rfl (.inr (.inr (.inl rfl))) rfl rfl) ?_
  refine VL.nil ?_
  refine VE.then_wp ?_
  refine V.cond rfl (fun h3 => ?_) (fun h3 => ?_)
  · skip
    rw [k4] at h3; cases h3
  refine V.skip ?_
  refine VE.then_wp ?_
  refine V.seq ?_
  refine V.region ?_
  refine VL.r (.inl rfl) rfl (by decide) (yr_move rfl rfl) ?_
  refine VL.r (.inl rfl) rfl (by decide) (yr_fcmp (b := 4602678819172646912) rfl (.inr (.inr (.inr (.inr (.inr rfl))))) rfl rfl) ?_
  refine VL.r (.inl rfl) rfl (by decide) (yr_assign rfl rfl) ?_
  refine VL.nil ?_
  refine VE.then_wp ?_
  refine V.seq ?_
  refine V.seq ?_
  refine V.region ?_
  refine VL.r (.inl rfl) rfl (by decide) (yr_move rfl rfl) ?_
  refine VL.nil ?_
  refine VE.then_wp ?_
  refine V.cond rfl (fun h4 => ?_) (fun h4 => ?_)
  · skip
    have hA31 := h4
    refine V.region ?_
    refine VL.r (.inl rfl) rfl (by decide) (yr_move rfl rfl) ?_
    refine VL.r (.inl rfl) rfl (by decide) (yr_float (b := 4602678819172646912) rfl (.inr (.inl rfl)) rfl rfl) ?_
    refine VL.r (.inl rfl) rfl (by decide) (yr_assign rfl rfl) ?_
    refine VL.nil ?_
    refine VE.then_wp ?_
    refine V.seq ?_
    refine V.seq ?_
    refine V.region ?_
    refine VL.r (.inl rfl) rfl (by decide) (yr_move rfl rfl) ?_
    refine VL.r (.inl rfl) rfl (by decide) (yr_fcmp (b := 4598175219545276416) rfl (.inr (.inr (.inr (.inr (.inl rfl))))) rfl rfl) ?_
    refine VL.nil ?_
    refine VE.then_wp ?_
    refine V.cond rfl (fun h5 => ?_) (fun h5 => ?_)
    · skip
      have hA35 := h5
      refine V.region ?_
      refine VL.r (.inl rfl) rfl (by decide) (yr_move rfl rfl) ?_
      refine VL.r (.inl rfl) rfl (by decide) (yr_float (a := 4602678819172646912) rfl (.inr (.inl rfl)) rfl rfl) ?_
      refine VL.r (.inl rfl) rfl (by decide) (yr_assign rfl rfl) ?_
      refine VL.nil ?_
      refine VE.then_wp ?_
      refine V.seq ?_
      refine V.region ?_
      refine VL.r (.inl rfl) rfl (by decide) (yr_move rfl rfl) ?_
      refine VL.r (.inl rfl) rfl (by decide) (yr_float (b := 4618760256179416344) rfl (.inr (.inr (.inl rfl))) rfl rfl) ?_
      refine VL.r (.inl rfl) rfl (by decide) (yr_assign rfl rfl) ?_
      refine VL.nil ?_
      refine VE.then_wp ?_
      refine V.seq ?_
      refine V.region ?_
      refine VL.r (.inl rfl) rfl (by decide) (yr_move rfl rfl) ?_
      refine VL.r (.inl rfl) rfl (by decide) (yr_move rfl rfl) ?_
      refine VL.r (.inl rfl) rfl (by decide) (yr_float rfl (.inr (.inr (.inl rfl))) rfl rfl) ?_
      refine VL.r (.inl rfl) rfl (by decide) (yr_assign rfl rfl) ?_
      refine VL.nil ?_
      refine VE.then_wp ?_
      refine V.seq ?_
      refine V.region ?_
      refine VL.r (.inl rfl) rfl (by decide) (yr_assign (u := .float .f64 4607182418800017408) rfl rfl) ?_
      refine VL.nil ?_
      refine VE.then_wp ?_
      refine V.seq ?_
      refine V.seq ?_
      refine V.region ?_
      refine VL.r (.inl rfl) rfl (by decide) (yr_assign (u := .float .f64 4620693217682128896) rfl rfl) ?_
      refine VL.nil ?_
      refine VE.then_wp ?_
      refine V.block ?_
      refine V.loopc (G := Nat) [(5, _), (6, _), (7, _)] (fun (k : Nat) => k ≤ 8) (fun (k : Nat) => []) (fun (k : Nat) => [(8, .float .f64 (imP (fop .mul .f64 (fop .mul .f64 (fop .sub .f64 4602678819172646912 (fop .sub .f64 (fop .sub .f64 (fconv .f32 .f64 x) (FloatKind.f64.nearest i)) 4602678819172646912)) 4618760256179416344) (fop .mul .f64 (fop .sub .f64 4602678819172646912 (fop .sub .f64 (fop .sub .f64 (fconv .f32 .f64 x) (FloatKind.f64.nearest i)) 4602678819172646912)) 4618760256179416344)) k)), (9, .float .f64 (imK k))]) (fun (k : Nat) => 8 - k) 0 (.cons rfl (.cons rfl (.cons rfl .nil))) (.cons rfl (.cons rfl .nil)) ?_ ?_ ?_
      · exact (fun w hw => hw.sub (List.nil_sublist _))
      · exact (Nat.zero_le _)
      rintro k hk
      show V _ _ _ [] ([(8, .float .f64 (imP (fop .mul .f64 (fop .mul .f64 (fop .sub .f64 4602678819172646912 (fop .sub .f64 (fop .sub .f64 (fconv .f32 .f64 x) (FloatKind.f64.nearest i)) 4602678819172646912)) 4618760256179416344) (fop .mul .f64 (fop .sub .f64 4602678819172646912 (fop .sub .f64 (fop .sub .f64 (fconv .f32 .f64 x) (FloatKind.f64.nearest i)) 4602678819172646912)) 4618760256179416344)) k)), (9, .float .f64 (imK k))] ++ [(5, _), (6, _), (7, _)]) _ _
      refine V.seq ?_
      refine V.seq ?_
      refine V.region ?_
      refine VL.r (.inl rfl) rfl (by decide) (yr_move rfl rfl) ?_
      refine VL.r (.inl rfl) rfl (by decide) (yr_fcmp (b := 4607182418800017408) rfl (.inr (.inr (.inr (.inr (.inr rfl))))) rfl rfl) ?_
      refine VL.nil ?_
      refine VE.then_wp ?_
      refine V.cond rfl (fun h6 => ?_) (fun h6 => ?_)
      · skip
        have hk9 := imK_lt hk h6
        refine V.skip ?_
        refine VE.then_wp ?_
        refine V.seq ?_
        refine V.block ?_
        refine V.region ?_
        refine VL.r (.inl rfl) rfl (by decide) (yr_move rfl rfl) ?_
        refine VL.r (.inl rfl) rfl (by decide) (yr_move rfl rfl) ?_
        refine VL.r (.inl rfl) rfl (by decide) (yr_float rfl (.inr (.inr (.inl rfl))) rfl rfl) ?_
        refine VL.r (.inl rfl) rfl (by decide) (yr_move rfl rfl) ?_
        refine VL.r (.inl rfl) rfl (by decide) (yr_float (a := 4611686018427387904) rfl (.inr (.inr (.inl rfl))) rfl rfl) ?_
        refine VL.r (.inl rfl) rfl (by decide) (yr_move rfl rfl) ?_
        refine VL.r (.inl rfl) rfl (by decide) (yr_float (a := 4611686018427387904) rfl (.inr (.inr (.inl rfl))) rfl rfl) ?_
        refine VL.r (.inl rfl) rfl (by decide) (yr_float (b := 4607182418800017408) rfl (.inl rfl) rfl rfl) ?_
        refine VL.r (.inl rfl) rfl (by decide) (yr_float rfl (.inr (.inr (.inl rfl))) rfl rfl) ?_
        refine VL.r (.inl rfl) rfl (by decide) (yr_float rfl (.inr (.inr (.inr rfl))) rfl rfl) ?_
        refine VL.r (.inl rfl) rfl (by decide) (yr_float (a := 4607182418800017408) rfl (.inr (.inl rfl)) rfl rfl) ?_
        refine VL.r (.inl rfl) rfl (by decide) (yr_assign rfl rfl) ?_
        refine VL.nil ?_
        refine VE.block_normal ?_
        refine VE.then_wp ?_
        refine V.region ?_
        refine VL.r (.inl rfl) rfl (by decide) (yr_move rfl rfl) ?_
        refine VL.r (.inl rfl) rfl (by decide) (yr_float (b := 4607182418800017408) rfl (.inr (.inl rfl)) rfl rfl) ?_
        refine VL.r (.inl rfl) rfl (by decide) (yr_assign rfl rfl) ?_
        refine VL.nil ?_
        refine VE.round (k + 1) ?_ ?_ ?_ ?_ ?_
        · exact (.cons (congrArg (fun i => some (Value.float .f64 i)) (by rfl)) (.cons (congrArg (fun i => some (Value.float .f64 i)) (by rfl)) .nil))
        · exact (.cons rfl (.cons rfl (.cons rfl .nil)))
        · exact (fun w hw => hw.sub (List.nil_sublist _))
        · (try dsimp only); omega
        · (try dsimp only); omega
      obtain rfl := imK_ge hk h6
      have hov9 := k5
      first
        | (rw [im_r3 hA31 (im_r2 (im_r11 hA31) hA35)] at hov9; simp only [if_true, Bool.false_eq_true, if_false] at hov9)
        | (rw [im_r3 hA31 (im_r2 (im_r10 hA31) hA35)] at hov9; simp only [if_true, Bool.false_eq_true, if_false] at hov9)
      refine V.exit ?_
      refine VE.then_exit ?_
      refine VE.then_exit ?_
      refine VE.block_here ?_
      refine VE.then_wp ?_
      refine V.seq ?_
      refine V.region ?_
      refine VL.r (.inl rfl) rfl (by decide) (yr_move rfl rfl) ?_
      refine VL.r (.inl rfl) rfl (by decide) (yr_move rfl rfl) ?_
      refine VL.r (.inl rfl) rfl (by decide) (yr_float rfl (.inr (.inr (.inl rfl))) rfl rfl) ?_
      refine VL.r (.inl rfl) rfl (by decide) (yr_assign rfl rfl) ?_
      refine VL.nil ?_
      refine VE.then_wp ?_
      refine V.seq ?_
      refine V.seq ?_
      refine V.region ?_
      refine VL.r (.inl rfl) rfl (by decide) (yr_move rfl rfl) ?_
      refine VL.nil ?_
      refine VE.then_wp ?_
      refine V.cond rfl (fun h7 => ?_) (fun h7 => ?_)
      · skip
        refine V.region ?_
        refine VL.r (.inl rfl) rfl (by decide) (yr_move rfl rfl) ?_
        refine VL.r (.inl rfl) rfl (by decide) (yr_fneg rfl rfl) ?_
        refine VL.r (.inl rfl) rfl (by decide) (yr_assign rfl rfl) ?_
        refine VL.nil ?_
        refine VE.then_wp ?_
        refine V.seq ?_
        refine V.region ?_
        refine VL.r (.inl rfl) rfl (by decide) (yr_move rfl rfl) ?_
        refine VL.r (.inl rfl) rfl (by decide) (yr_fconv rfl Try.underlying45 Try.underlying25 (by decide) rfl hov9) ?_
        refine VL.r (.inl rfl) rfl (by decide) (yr_assign rfl rfl) ?_
        refine VL.nil ?_
        refine VE.then_wp ?_
        refine V.ret ?_
        refine ret1 rfl rfl (fun w1 hw => ?_)
        refine ⟨congrArg (Value.float .f32) ?_, hw.below⟩
        unfold imW
        first
          | (rw [im_r3 hA31 (im_r2 (im_r11 hA31) hA35)]; simp only [if_true, Bool.false_eq_true, if_false]; done)
          | (rw [im_r3 hA31 (im_r2 (im_r10 hA31) hA35)]; simp only [if_true, Bool.false_eq_true, if_false]; done)
      rw [hA31] at h7; cases h7
    have hA35 := h5
    refine V.skip ?_
    refine VE.then_wp ?_
    refine V.seq ?_
    refine V.region ?_
    refine VL.r (.inl rfl) rfl (by decide) (yr_move rfl rfl) ?_
    refine VL.r (.inl rfl) rfl (by decide) (yr_float (b := 4618760256179416344) rfl (.inr (.inr (.inl rfl))) rfl rfl) ?_
    refine VL.r (.inl rfl) rfl (by decide) (yr_assign rfl rfl) ?_
    refine VL.nil ?_
    refine VE.then_wp ?_
    refine V.seq ?_
    refine V.region ?_
    refine VL.r (.inl rfl) rfl (by decide) (yr_move rfl rfl) ?_
    refine VL.r (.inl rfl) rfl (by decide) (yr_move rfl rfl) ?_
    refine VL.r (.inl rfl) rfl (by decide) (yr_float rfl (.inr (.inr (.inl rfl))) rfl rfl) ?_
    refine VL.r (.inl rfl) rfl (by decide) (yr_assign rfl rfl) ?_
    refine VL.nil ?_
    refine VE.then_wp ?_
    refine V.seq ?_
    refine V.region ?_
    refine VL.r (.inl rfl) rfl (by decide) (yr_assign (u := .float .f64 4607182418800017408) rfl rfl) ?_
    refine VL.nil ?_
    refine VE.then_wp ?_
    refine V.seq ?_
    refine V.seq ?_
    refine V.region ?_
    refine VL.r (.inl rfl) rfl (by decide) (yr_assign (u := .float .f64 4620693217682128896) rfl rfl) ?_
    refine VL.nil ?_
    refine VE.then_wp ?_
    refine V.block ?_
    refine V.loopc (G := Nat) [(5, _), (6, _), (7, _)] (fun (k : Nat) => k ≤ 8) (fun (k : Nat) => []) (fun (k : Nat) => [(8, .float .f64 (imP (fop .mul .f64 (fop .mul .f64 (fop .sub .f64 (fop .sub .f64 (fconv .f32 .f64 x) (FloatKind.f64.nearest i)) 4602678819172646912) 4618760256179416344) (fop .mul .f64 (fop .sub .f64 (fop .sub .f64 (fconv .f32 .f64 x) (FloatKind.f64.nearest i)) 4602678819172646912) 4618760256179416344)) k)), (9, .float .f64 (imK k))]) (fun (k : Nat) => 8 - k) 0 (.cons rfl (.cons rfl (.cons rfl .nil))) (.cons rfl (.cons rfl .nil)) ?_ ?_ ?_
    · exact (fun w hw => hw.sub (List.nil_sublist _))
    · exact (Nat.zero_le _)
    rintro k hk
    show V _ _ _ [] ([(8, .float .f64 (imP (fop .mul .f64 (fop .mul .f64 (fop .sub .f64 (fop .sub .f64 (fconv .f32 .f64 x) (FloatKind.f64.nearest i)) 4602678819172646912) 4618760256179416344) (fop .mul .f64 (fop .sub .f64 (fop .sub .f64 (fconv .f32 .f64 x) (FloatKind.f64.nearest i)) 4602678819172646912) 4618760256179416344)) k)), (9, .float .f64 (imK k))] ++ [(5, _), (6, _), (7, _)]) _ _
    refine V.seq ?_
    refine V.seq ?_
    refine V.region ?_
    refine VL.r (.inl rfl) rfl (by decide) (yr_move rfl rfl) ?_
    refine VL.r (.inl rfl) rfl (by decide) (yr_fcmp (b := 4607182418800017408) rfl (.inr (.inr (.inr (.inr (.inr rfl))))) rfl rfl) ?_
    refine VL.nil ?_
    refine VE.then_wp ?_
    refine V.cond rfl (fun h8 => ?_) (fun h8 => ?_)
    · skip
      have hk9 := imK_lt hk h8
      refine V.skip ?_
      refine VE.then_wp ?_
      refine V.seq ?_
      refine V.block ?_
      refine V.region ?_
      refine VL.r (.inl rfl) rfl (by decide) (yr_move rfl rfl) ?_
      refine VL.r (.inl rfl) rfl (by decide) (yr_move rfl rfl) ?_
      refine VL.r (.inl rfl) rfl (by decide) (yr_float rfl (.inr (.inr (.inl rfl))) rfl rfl) ?_
      refine VL.r (.inl rfl) rfl (by decide) (yr_move rfl rfl) ?_
      refine VL.r (.inl rfl) rfl (by decide) (yr_float (a := 4611686018427387904) rfl (.inr (.inr (.inl rfl))) rfl rfl) ?_
      refine VL.r (.inl rfl) rfl (by decide) (yr_move rfl rfl) ?_
      refine VL.r (.inl rfl) rfl (by decide) (yr_float (a := 4611686018427387904) rfl (.inr (.inr (.inl rfl))) rfl rfl) ?_
      refine VL.r (.inl rfl) rfl (by decide) (yr_float (b := 4607182418800017408) rfl (.inl rfl) rfl rfl) ?_
      refine VL.r (.inl rfl) rfl (by decide) (yr_float rfl (.inr (.inr (.inl rfl))) rfl rfl) ?_
      refine VL.r (.inl rfl) rfl (by decide) (yr_float rfl (.inr (.inr (.inr rfl))) rfl rfl) ?_
      refine VL.r (.inl rfl) rfl (by decide) (yr_float (a := 4607182418800017408) rfl (.inr (.inl rfl)) rfl rfl) ?_
      refine VL.r (.inl rfl) rfl (by decide) (yr_assign rfl rfl) ?_
      refine VL.nil ?_
      refine VE.block_normal ?_
      refine VE.then_wp ?_
      refine V.region ?_
      refine VL.r (.inl rfl) rfl (by decide) (yr_move rfl rfl) ?_
      refine VL.r (.inl rfl) rfl (by decide) (yr_float (b := 4607182418800017408) rfl (.inr (.inl rfl)) rfl rfl) ?_
      refine VL.r (.inl rfl) rfl (by decide) (yr_assign rfl rfl) ?_
      refine VL.nil ?_
      refine VE.round (k + 1) ?_ ?_ ?_ ?_ ?_
      · exact (.cons (congrArg (fun i => some (Value.float .f64 i)) (by rfl)) (.cons (congrArg (fun i => some (Value.float .f64 i)) (by rfl)) .nil))
      · exact (.cons rfl (.cons rfl (.cons rfl .nil)))
      · exact (fun w hw => hw.sub (List.nil_sublist _))
      · (try dsimp only); omega
      · (try dsimp only); omega
    obtain rfl := imK_ge hk h8
    have hov9 := k5
    first
      | (rw [im_r3 hA31 (im_r2 (im_r11 hA31) hA35)] at hov9; simp only [if_true, Bool.false_eq_true, if_false] at hov9)
      | (rw [im_r3 hA31 (im_r2 (im_r10 hA31) hA35)] at hov9; simp only [if_true, Bool.false_eq_true, if_false] at hov9)
    refine V.exit ?_
    refine VE.then_exit ?_
    refine VE.then_exit ?_
    refine VE.block_here ?_
    refine VE.then_wp ?_
    refine V.seq ?_
    refine V.region ?_
    refine VL.r (.inl rfl) rfl (by decide) (yr_move rfl rfl) ?_
    refine VL.r (.inl rfl) rfl (by decide) (yr_move rfl rfl) ?_
    refine VL.r (.inl rfl) rfl (by decide) (yr_float rfl (.inr (.inr (.inl rfl))) rfl rfl) ?_
    refine VL.r (.inl rfl) rfl (by decide) (yr_assign rfl rfl) ?_
    refine VL.nil ?_
    refine VE.then_wp ?_
    refine V.seq ?_
    refine V.seq ?_
    refine V.region ?_
    refine VL.r (.inl rfl) rfl (by decide) (yr_move rfl rfl) ?_
    refine VL.nil ?_
    refine VE.then_wp ?_
    refine V.cond rfl (fun h9 => ?_) (fun h9 => ?_)
    · skip
      refine V.region ?_
      refine VL.r (.inl rfl) rfl (by decide) (yr_move rfl rfl) ?_
      refine VL.r (.inl rfl) rfl (by decide) (yr_fneg rfl rfl) ?_
      refine VL.r (.inl rfl) rfl (by decide) (yr_assign rfl rfl) ?_
      refine VL.nil ?_
      refine VE.then_wp ?_
      refine V.seq ?_
      refine V.region ?_
      refine VL.r (.inl rfl) rfl (by decide) (yr_move rfl rfl) ?_
      refine VL.r (.inl rfl) rfl (by decide) (yr_fconv rfl Try.underlying45 Try.underlying25 (by decide) rfl hov9) ?_
      refine VL.r (.inl rfl) rfl (by decide) (yr_assign rfl rfl) ?_
      refine VL.nil ?_
      refine VE.then_wp ?_
      refine V.ret ?_
      refine ret1 rfl rfl (fun w1 hw => ?_)
      refine ⟨congrArg (Value.float .f32) ?_, hw.below⟩
      unfold imW
      first
        | (rw [im_r3 hA31 (im_r2 (im_r11 hA31) hA35)]; simp only [if_true, Bool.false_eq_true, if_false]; done)
        | (rw [im_r3 hA31 (im_r2 (im_r10 hA31) hA35)]; simp only [if_true, Bool.false_eq_true, if_false]; done)
    rw [hA31] at h9; cases h9
  have hA31 := h4
  refine V.skip ?_
  refine VE.then_wp ?_
  refine V.seq ?_
  refine V.seq ?_
  refine V.region ?_
  refine VL.r (.inl rfl) rfl (by decide) (yr_move rfl rfl) ?_
  refine VL.r (.inl rfl) rfl (by decide) (yr_fcmp (b := 4598175219545276416) rfl (.inr (.inr (.inr (.inr (.inl rfl))))) rfl rfl) ?_
  refine VL.nil ?_
  refine VE.then_wp ?_
  refine V.cond rfl (fun h10 => ?_) (fun h10 => ?_)
  · skip
    have hA35 := h10
    refine V.region ?_
    refine VL.r (.inl rfl) rfl (by decide) (yr_move rfl rfl) ?_
    refine VL.r (.inl rfl) rfl (by decide) (yr_float (a := 4602678819172646912) rfl (.inr (.inl rfl)) rfl rfl) ?_
    refine VL.r (.inl rfl) rfl (by decide) (yr_assign rfl rfl) ?_
    refine VL.nil ?_
    refine VE.then_wp ?_
    refine V.seq ?_
    refine V.region ?_
    refine VL.r (.inl rfl) rfl (by decide) (yr_move rfl rfl) ?_
    refine VL.r (.inl rfl) rfl (by decide) (yr_float (b := 4618760256179416344) rfl (.inr (.inr (.inl rfl))) rfl rfl) ?_
    refine VL.r (.inl rfl) rfl (by decide) (yr_assign rfl rfl) ?_
    refine VL.nil ?_
    refine VE.then_wp ?_
    refine V.seq ?_
    refine V.region ?_
    refine VL.r (.inl rfl) rfl (by decide) (yr_move rfl rfl) ?_
    refine VL.r (.inl rfl) rfl (by decide) (yr_move rfl rfl) ?_
    refine VL.r (.inl rfl) rfl (by decide) (yr_float rfl (.inr (.inr (.inl rfl))) rfl rfl) ?_
    refine VL.r (.inl rfl) rfl (by decide) (yr_assign rfl rfl) ?_
    refine VL.nil ?_
    refine VE.then_wp ?_
    refine V.seq ?_
    refine V.region ?_
    refine VL.r (.inl rfl) rfl (by decide) (yr_assign (u := .float .f64 4607182418800017408) rfl rfl) ?_
    refine VL.nil ?_
    refine VE.then_wp ?_
    refine V.seq ?_
    refine V.seq ?_
    refine V.region ?_
    refine VL.r (.inl rfl) rfl (by decide) (yr_assign (u := .float .f64 4620693217682128896) rfl rfl) ?_
    refine VL.nil ?_
    refine VE.then_wp ?_
    refine V.block ?_
    refine V.loopc (G := Nat) [(5, _), (6, _), (7, _)] (fun (k : Nat) => k ≤ 8) (fun (k : Nat) => []) (fun (k : Nat) => [(8, .float .f64 (imP (fop .mul .f64 (fop .mul .f64 (fop .sub .f64 4602678819172646912 (fop .sub .f64 (fconv .f32 .f64 x) (FloatKind.f64.nearest i))) 4618760256179416344) (fop .mul .f64 (fop .sub .f64 4602678819172646912 (fop .sub .f64 (fconv .f32 .f64 x) (FloatKind.f64.nearest i))) 4618760256179416344)) k)), (9, .float .f64 (imK k))]) (fun (k : Nat) => 8 - k) 0 (.cons rfl (.cons rfl (.cons rfl .nil))) (.cons rfl (.cons rfl .nil)) ?_ ?_ ?_
    · exact (fun w hw => hw.sub (List.nil_sublist _))
    · exact (Nat.zero_le _)
    rintro k hk
    show V _ _ _ [] ([(8, .float .f64 (imP (fop .mul .f64 (fop .mul .f64 (fop .sub .f64 4602678819172646912 (fop .sub .f64 (fconv .f32 .f64 x) (FloatKind.f64.nearest i))) 4618760256179416344) (fop .mul .f64 (fop .sub .f64 4602678819172646912 (fop .sub .f64 (fconv .f32 .f64 x) (FloatKind.f64.nearest i))) 4618760256179416344)) k)), (9, .float .f64 (imK k))] ++ [(5, _), (6, _), (7, _)]) _ _
    refine V.seq ?_
    refine V.seq ?_
    refine V.region ?_
    refine VL.r (.inl rfl) rfl (by decide) (yr_move rfl rfl) ?_
    refine VL.r (.inl rfl) rfl (by decide) (yr_fcmp (b := 4607182418800017408) rfl (.inr (.inr (.inr (.inr (.inr rfl))))) rfl rfl) ?_
    refine VL.nil ?_
    refine VE.then_wp ?_
    refine V.cond rfl (fun h11 => ?_) (fun h11 => ?_)
    · skip
      have hk9 := imK_lt hk h11
      refine V.skip ?_
      refine VE.then_wp ?_
      refine V.seq ?_
      refine V.block ?_
      refine V.region ?_
      refine VL.r (.inl rfl) rfl (by decide) (yr_move rfl rfl) ?_
      refine VL.r (.inl rfl) rfl (by decide) (yr_move rfl rfl) ?_
      refine VL.r (.inl rfl) rfl (by decide) (yr_float rfl (.inr (.inr (.inl rfl))) rfl rfl) ?_
      refine VL.r (.inl rfl) rfl (by decide) (yr_move rfl rfl) ?_
      refine VL.r (.inl rfl) rfl (by decide) (yr_float (a := 4611686018427387904) rfl (.inr (.inr (.inl rfl))) rfl rfl) ?_
      refine VL.r (.inl rfl) rfl (by decide) (yr_move rfl rfl) ?_
      refine VL.r (.inl rfl) rfl (by decide) (yr_float (a := 4611686018427387904) rfl (.inr (.inr (.inl rfl))) rfl rfl) ?_
      refine VL.r (.inl rfl) rfl (by decide) (yr_float (b := 4607182418800017408) rfl (.inl rfl) rfl rfl) ?_
      refine VL.r (.inl rfl) rfl (by decide) (yr_float rfl (.inr (.inr (.inl rfl))) rfl rfl) ?_
      refine VL.r (.inl rfl) rfl (by decide) (yr_float rfl (.inr (.inr (.inr rfl))) rfl rfl) ?_
      refine VL.r (.inl rfl) rfl (by decide) (yr_float (a := 4607182418800017408) rfl (.inr (.inl rfl)) rfl rfl) ?_
      refine VL.r (.inl rfl) rfl (by decide) (yr_assign rfl rfl) ?_
      refine VL.nil ?_
      refine VE.block_normal ?_
      refine VE.then_wp ?_
      refine V.region ?_
      refine VL.r (.inl rfl) rfl (by decide) (yr_move rfl rfl) ?_
      refine VL.r (.inl rfl) rfl (by decide) (yr_float (b := 4607182418800017408) rfl (.inr (.inl rfl)) rfl rfl) ?_
      refine VL.r (.inl rfl) rfl (by decide) (yr_assign rfl rfl) ?_
      refine VL.nil ?_
      refine VE.round (k + 1) ?_ ?_ ?_ ?_ ?_
      · exact (.cons (congrArg (fun i => some (Value.float .f64 i)) (by rfl)) (.cons (congrArg (fun i => some (Value.float .f64 i)) (by rfl)) .nil))
      · exact (.cons rfl (.cons rfl (.cons rfl .nil)))
      · exact (fun w hw => hw.sub (List.nil_sublist _))
      · (try dsimp only); omega
      · (try dsimp only); omega
    obtain rfl := imK_ge hk h11
    have hov9 := k5
    first
      | (rw [im_r3 hA31 (im_r2 (im_r11 hA31) hA35)] at hov9; simp only [if_true, Bool.false_eq_true, if_false] at hov9)
      | (rw [im_r3 hA31 (im_r2 (im_r10 hA31) hA35)] at hov9; simp only [if_true, Bool.false_eq_true, if_false] at hov9)
    refine V.exit ?_
    refine VE.then_exit ?_
    refine VE.then_exit ?_
    refine VE.block_here ?_
    refine VE.then_wp ?_
    refine V.seq ?_
    refine V.region ?_
    refine VL.r (.inl rfl) rfl (by decide) (yr_move rfl rfl) ?_
    refine VL.r (.inl rfl) rfl (by decide) (yr_move rfl rfl) ?_
    refine VL.r (.inl rfl) rfl (by decide) (yr_float rfl (.inr (.inr (.inl rfl))) rfl rfl) ?_
    refine VL.r (.inl rfl) rfl (by decide) (yr_assign rfl rfl) ?_
    refine VL.nil ?_
    refine VE.then_wp ?_
    refine V.seq ?_
    refine V.seq ?_
    refine V.region ?_
    refine VL.r (.inl rfl) rfl (by decide) (yr_move rfl rfl) ?_
    refine VL.nil ?_
    refine VE.then_wp ?_
    refine V.cond rfl (fun h12 => ?_) (fun h12 => ?_)
    · skip
      rw [hA31] at h12; cases h12
    refine V.skip ?_
    refine VE.then_wp ?_
    refine V.seq ?_
    refine V.region ?_
    refine VL.r (.inl rfl) rfl (by decide) (yr_move rfl rfl) ?_
    refine VL.r (.inl rfl) rfl (by decide) (yr_fconv rfl Try.underlying45 Try.underlying25 (by decide) rfl hov9) ?_
    refine VL.r (.inl rfl) rfl (by decide) (yr_assign rfl rfl) ?_
    refine VL.nil ?_
    refine VE.then_wp ?_
    refine V.ret ?_
    refine ret1 rfl rfl (fun w1 hw => ?_)
    refine ⟨congrArg (Value.float .f32) ?_, hw.below⟩
    unfold imW
    first
      | (rw [im_r3 hA31 (im_r2 (im_r11 hA31) hA35)]; simp only [if_true, Bool.false_eq_true, if_false]; done)
      | (rw [im_r3 hA31 (im_r2 (im_r10 hA31) hA35)]; simp only [if_true, Bool.false_eq_true, if_false]; done)
  have hA35 := h10
  refine V.skip ?_
  refine VE.then_wp ?_
  refine V.seq ?_
  refine V.region ?_
  refine VL.r (.inl rfl) rfl (by decide) (yr_move rfl rfl) ?_
  refine VL.r (.inl rfl) rfl (by decide) (yr_float (b := 4618760256179416344) rfl (.inr (.inr (.inl rfl))) rfl rfl) ?_
  refine VL.r (.inl rfl) rfl (by decide) (yr_assign rfl rfl) ?_
  refine VL.nil ?_
  refine VE.then_wp ?_
  refine V.seq ?_
  refine V.region ?_
  refine VL.r (.inl rfl) rfl (by decide) (yr_move rfl rfl) ?_
  refine VL.r (.inl rfl) rfl (by decide) (yr_move rfl rfl) ?_
  refine VL.r (.inl rfl) rfl (by decide) (yr_float rfl (.inr (.inr (.inl rfl))) rfl rfl) ?_
  refine VL.r (.inl rfl) rfl (by decide) (yr_assign rfl rfl) ?_
  refine VL.nil ?_
  refine VE.then_wp ?_
  refine V.seq ?_
  refine V.region ?_
  refine VL.r (.inl rfl) rfl (by decide) (yr_assign (u := .float .f64 4607182418800017408) rfl rfl) ?_
  refine VL.nil ?_
  refine VE.then_wp ?_
  refine V.seq ?_
  refine V.seq ?_
  refine V.region ?_
  refine VL.r (.inl rfl) rfl (by decide) (yr_assign (u := .float .f64 4620693217682128896) rfl rfl) ?_
  refine VL.nil ?_
  refine VE.then_wp ?_
  refine V.block ?_
  refine V.loopc (G := Nat) [(5, _), (6, _), (7, _)] (fun (k : Nat) => k ≤ 8) (fun (k : Nat) => []) (fun (k : Nat) => [(8, .float .f64 (imP (fop .mul .f64 (fop .mul .f64 (fop .sub .f64 (fconv .f32 .f64 x) (FloatKind.f64.nearest i)) 4618760256179416344) (fop .mul .f64 (fop .sub .f64 (fconv .f32 .f64 x) (FloatKind.f64.nearest i)) 4618760256179416344)) k)), (9, .float .f64 (imK k))]) (fun (k : Nat) => 8 - k) 0 (.cons rfl (.cons rfl (.cons rfl .nil))) (.cons rfl (.cons rfl .nil)) ?_ ?_ ?_
  · exact (fun w hw => hw.sub (List.nil_sublist _))
  · exact (Nat.zero_le _)
  rintro k hk
  show V _ _ _ [] ([(8, .float .f64 (imP (fop .mul .f64 (fop .mul .f64 (fop .sub .f64 (fconv .f32 .f64 x) (FloatKind.f64.nearest i)) 4618760256179416344) (fop .mul .f64 (fop .sub .f64 (fconv .f32 .f64 x) (FloatKind.f64.nearest i)) 4618760256179416344)) k)), (9, .float .f64 (imK k))] ++ [(5, _), (6, _), (7, _)]) _ _
  refine V.seq ?_
  refine V.seq ?_
  refine V.region ?_
  refine VL.r (.inl rfl) rfl (by decide) (yr_move rfl rfl) ?_
  refine VL.r (.inl rfl) rfl (by decide) (yr_fcmp (b := 4607182418800017408) rfl (.inr (.inr (.inr (.inr (.inr rfl))))) rfl rfl) ?_
  refine VL.nil ?_
  refine VE.then_wp ?_
  refine V.cond rfl (fun h13 => ?_) (fun h13 => ?_)
  · skip
    have hk9 := imK_lt hk h13
    refine V.skip ?_
    refine VE.then_wp ?_
    refine V.seq ?_
    refine V.block ?_
    refine V.region ?_
    refine VL.r (.inl rfl) rfl (by decide) (yr_move rfl rfl) ?_
    refine VL.r (.inl rfl) rfl (by decide) (yr_move rfl rfl) ?_
    refine VL.r (.inl rfl) rfl (by decide) (yr_float rfl (.inr (.inr (.inl rfl))) rfl rfl) ?_
    refine VL.r (.inl rfl) rfl (by decide) (yr_move rfl rfl) ?_
    refine VL.r (.inl rfl) rfl (by decide) (yr_float (a := 4611686018427387904) rfl (.inr (.inr (.inl rfl))) rfl rfl) ?_
    refine VL.r (.inl rfl) rfl (by decide) (yr_move rfl rfl) ?_
    refine VL.r (.inl rfl) rfl (by decide) (yr_float (a := 4611686018427387904) rfl (.inr (.inr (.inl rfl))) rfl rfl) ?_
    refine VL.r (.inl rfl) rfl (by decide) (yr_float (b := 4607182418800017408) rfl (.inl rfl) rfl rfl) ?_
    refine VL.r (.inl rfl) rfl (by decide) (yr_float rfl (.inr (.inr (.inl rfl))) rfl rfl) ?_
    refine VL.r (.inl rfl) rfl (by decide) (yr_float rfl (.inr (.inr (.inr rfl))) rfl rfl) ?_
    refine VL.r (.inl rfl) rfl (by decide) (yr_float (a := 4607182418800017408) rfl (.inr (.inl rfl)) rfl rfl) ?_
    refine VL.r (.inl rfl) rfl (by decide) (yr_assign rfl rfl) ?_
    refine VL.nil ?_
    refine VE.block_normal ?_
    refine VE.then_wp ?_
    refine V.region ?_
    refine VL.r (.inl rfl) rfl (by decide) (yr_move rfl rfl) ?_
    refine VL.r (.inl rfl) rfl (by decide) (yr_float (b := 4607182418800017408) rfl (.inr (.inl rfl)) rfl rfl) ?_
    refine VL.r (.inl rfl) rfl (by decide) (yr_assign rfl rfl) ?_
    refine VL.nil ?_
    refine VE.round (k + 1) ?_ ?_ ?_ ?_ ?_
    · exact (.cons (congrArg (fun i => some (Value.float .f64 i)) (by rfl)) (.cons (congrArg (fun i => some (Value.float .f64 i)) (by rfl)) .nil))
    · exact (.cons rfl (.cons rfl (.cons rfl .nil)))
    · exact (fun w hw => hw.sub (List.nil_sublist _))
    · (try dsimp only); omega
    · (try dsimp only); omega
  obtain rfl := imK_ge hk h13
  have hov9 := k5
  first
    | (rw [im_r3 hA31 (im_r2 (im_r11 hA31) hA35)] at hov9; simp only [if_true, Bool.false_eq_true, if_false] at hov9)
    | (rw [im_r3 hA31 (im_r2 (im_r10 hA31) hA35)] at hov9; simp only [if_true, Bool.false_eq_true, if_false] at hov9)
  refine V.exit ?_
  refine VE.then_exit ?_
  refine VE.then_exit ?_
  refine VE.block_here ?_
  refine VE.then_wp ?_
  refine V.seq ?_
  refine V.region ?_
  refine VL.r (.inl rfl) rfl (by decide) (yr_move rfl rfl) ?_
  refine VL.r (.inl rfl) rfl (by decide) (yr_move rfl rfl) ?_
  refine VL.r (.inl rfl) rfl (by decide) (yr_float rfl (.inr (.inr (.inl rfl))) rfl rfl) ?_
  refine VL.r (.inl rfl) rfl (by decide) (yr_assign rfl rfl) ?_
  refine VL.nil ?_
  refine VE.then_wp ?_
  refine V.seq ?_
  refine V.seq ?_
  refine V.region ?_
  refine VL.r (.inl rfl) rfl (by decide) (yr_move rfl rfl) ?_
  refine VL.nil ?_
  refine VE.then_wp ?_
  refine V.cond rfl (fun h14 => ?_) (fun h14 => ?_)
  · skip
    rw [hA31] at h14; cases h14
  refine V.skip ?_
  refine VE.then_wp ?_
  refine V.seq ?_
  refine V.region ?_
  refine VL.r (.inl rfl) rfl (by decide) (yr_move rfl rfl) ?_
  refine VL.r (.inl rfl) rfl (by decide) (yr_fconv rfl Try.underlying45 Try.underlying25 (by decide) rfl hov9) ?_
  refine VL.r (.inl rfl) rfl (by decide) (yr_assign rfl rfl) ?_
  refine VL.nil ?_
  refine VE.then_wp ?_
  refine V.ret ?_
  refine ret1 rfl rfl (fun w1 hw => ?_)
  refine ⟨congrArg (Value.float .f32) ?_, hw.below⟩
  unfold imW
  first
    | (rw [im_r3 hA31 (im_r2 (im_r11 hA31) hA35)]; simp only [if_true, Bool.false_eq_true, if_false]; done)
    | (rw [im_r3 hA31 (im_r2 (im_r10 hA31) hA35)]; simp only [if_true, Bool.false_eq_true, if_false]; done)
theorem c_isCnt12 {w : World} : Pure Try.prog 18 [.int .i64 12] w (.bool true) := by
  refine Pure.enter Try.func18 rfl Try.ntmps18 (Nat.le_of_ble_eq_true rfl) ?_
  refine V.seq ?_
  refine V.region ?_
  refine VL.r (.inl rfl) rfl (by decide) (yr_assign (u := .bool false) rfl rfl) ?_
  refine VL.nil ?_
  refine VE.then_wp ?_
  refine V.seq ?_
  refine V.region ?_
  refine VL.r (.inl rfl) rfl (by decide) (yr_move rfl rfl) ?_
  refine VL.q (.inl rfl) rfl (by decide) (yq_callf rfl known35_Lv (.cons rfl (.cons rfl (.cons rfl .nil))) (fun w hw => c_within)) ?_
  refine VL.r (.inl rfl) rfl (by decide) (yr_assign rfl rfl) ?_
  refine VL.nil ?_
  refine VE.then_wp ?_
  refine V.ret ?_
  refine ret1 rfl rfl (fun w1 hw => ?_)
  first | exact ⟨rfl, hw.below⟩ | exact ⟨by decide, hw.below⟩
theorem c_ring12 {w : World} : New Try.prog 5 [.int .i64 12, .float .f32 1065353216, .float .f32 0, .float .f32 1065353216] w (fun p : Option Addr × Nat => .tuple #[.agg #[.slice p.1 12 p.2, .bool true, .float .f32 1065353216], .bool true]) (fun p => [⟨p.1, vl (icL 12), p.2 * 3, 32⟩]) := by
  refine New.enter Try.func5 rfl Try.ntmps5 (Nat.le_of_ble_eq_true rfl) ?_
  refine V.seq ?_
  refine V.region ?_
  refine VL.new1 (.inl rfl) rfl (by decide) (yn_alloc rfl zero27_Lv rfl) ?_
  intro b8
  refine VL.r (.inl rfl) rfl (by decide) (yr_assign (u := .bool false) rfl rfl) ?_
  refine VL.nil ?_
  refine VE.then_wp ?_
  refine V.seq ?_
  refine V.seq ?_
  refine V.region ?_
  refine VL.r (.inl rfl) rfl (by decide) (yr_move rfl rfl) ?_
  refine VL.q (.inl rfl) rfl (by decide) (yq_callf rfl known18_Lv (.cons rfl .nil) (fun w hw => c_isCnt12)) ?_
  refine VL.r (.inl rfl) rfl (by decide) (yr_not rfl rfl) ?_
  refine VL.r (.inl rfl) rfl (by decide) (yr_move rfl rfl) ?_
  refine VX.split 16 _ rfl (fun h1 => ?_) (fun h1 => ?_)
  · skip
    replace h1 := bnot_t h1
    cases h1
  replace h1 := bnot_f h1
  refine VL.r (.inr ⟨_, _, _, rfl, rfl, rfl⟩) rfl (by decide) (yr_move rfl rfl) ?_
  refine VL.q (.inr ⟨_, _, _, rfl, rfl, rfl⟩) rfl (by decide) (yq_callf rfl known19_Lv (.cons rfl .nil) (fun w hw => c_isLength _)) ?_
  refine VL.r (.inr ⟨_, _, _, rfl, rfl, rfl⟩) rfl (by decide) (yr_not rfl rfl) ?_
  refine VL.r (.inl rfl) rfl (by decide) (yr_pick_f rfl rfl rfl) ?_
  refine VL.r (.inl rfl) rfl (by decide) (yr_move rfl rfl) ?_
  refine VX.split 21 _ rfl (fun h2 => ?_) (fun h2 => ?_)
  · skip
    replace h2 := bnot_t h2
    rw [show above 1065353216 = true by decide +kernel] at h2; cases h2
  replace h2 := bnot_f h2
  refine VL.r (.inr ⟨_, _, _, rfl, rfl, rfl⟩) rfl (by decide) (yr_move rfl rfl) ?_
  refine VL.q (.inr ⟨_, _, _, rfl, rfl, rfl⟩) rfl (by decide) (yq_callf rfl known20_Lv (.cons rfl .nil) (fun w hw => c_IsFinite _)) ?_
  refine VL.r (.inr ⟨_, _, _, rfl, rfl, rfl⟩) rfl (by decide) (yr_not rfl rfl) ?_
  refine VL.r (.inl rfl) rfl (by decide) (yr_pick_f rfl rfl rfl) ?_
  refine VL.nil ?_
  refine VE.then_wp ?_
  refine V.cond rfl (fun h3 => ?_) (fun h3 => ?_)
  · skip
    replace h3 := bnot_t h3
    rw [show fin 0 = true by decide +kernel] at h3; cases h3
  replace h3 := bnot_f h3
  refine V.skip ?_
  refine VE.then_wp ?_
  refine V.seq ?_
  refine V.region ?_
  refine VL.r (.inl rfl) rfl (by decide) (yr_move rfl rfl) ?_
  refine VL.r (.inl rfl) rfl (by decide) (yr_build rfl lay27_Lv rfl (.cons rfl (.cons rfl .nil)) zz7 rfl) ?_
  refine VL.new1 (.inl rfl) rfl (by decide) (yn_alloc rfl zero27_Lv rfl) ?_
  intro b10
  refine VL.s (.inl rfl) rfl (yc_store rfl sz27_Lv rfl rfl zz3 (.inr ⟨rfl, rfl⟩) rfl zz4 (by decide) rfl) ?_
  rintro ⟨⟩
  refine VL.nil ?_
  refine VE.then_wp ?_
  refine V.seq ?_
  refine V.seq ?_
  refine V.region ?_
  refine VL.r (.inl rfl) rfl (by decide) (yr_move rfl rfl) ?_
  refine VL.r (.inl rfl) rfl (by decide) (yr_move (u := .int .i64 0) rfl rfl) ?_
  refine VL.nil ?_
  refine VE.then_wp ?_
  refine V.block ?_
  refine V.loopc (G := Nat × (Option Addr) × Nat) [(0, _), (1, _), (2, _), (8, _), (10, _), (29, _)] (fun ⟨k, ar, cr⟩ => k ≤ 12) (fun ⟨k, ar, cr⟩ => [⟨ar, vl (icL k), cr * 3, 32⟩, ⟨some ⟨b10, 0, none⟩, [.slice ar k cr, .bool true, .float .f32 1065353216], 3, 27⟩, ⟨some ⟨b8, 0, none⟩, [.slice none 0 0, .bool false, .float .f32 0], 3, 27⟩]) (fun ⟨k, ar, cr⟩ => [(30, .int .i64 (k : Int))]) (fun ⟨k, ar, cr⟩ => 12 - k) (0, none, 0) (.cons rfl (.cons rfl (.cons rfl (.cons rfl (.cons rfl (.cons rfl .nil)))))) (.cons rfl .nil) ?_ ?_ ?_
  · exact (fun w hw => (hw.nil 32).pick (by apply Pick.cons1; (· repeat (first | exact Rem.here | exact Rem.all | exact Rem.hereS | apply Rem.there | apply Rem.thereS)); apply Pick.cons1; (· repeat (first | exact Rem.here | exact Rem.all | exact Rem.hereS | apply Rem.there | apply Rem.thereS)); apply Pick.cons1; (· repeat (first | exact Rem.here | exact Rem.all | exact Rem.hereS | apply Rem.there | apply Rem.thereS)); exact Pick.nil))
  · exact (Nat.zero_le _)
  rintro ⟨k, ar, cr⟩ hk9
  show V _ _ _ [⟨ar, vl (icL k), cr * 3, 32⟩, ⟨some ⟨b10, 0, none⟩, [.slice ar k cr, .bool true, .float .f32 1065353216], 3, 27⟩, ⟨some ⟨b8, 0, none⟩, [.slice none 0 0, .bool false, .float .f32 0], 3, 27⟩] ([(30, .int .i64 (k : Int))] ++ [(0, _), (1, _), (2, _), (8, _), (10, _), (29, _)]) _ _
  have hk : k ≤ 12 := hk9
  refine V.seq ?_
  refine V.region ?_
  refine VL.r (.inl rfl) rfl (by decide) (yr_icmp rfl (.inr (.inr (.inl rfl))) rfl rfl) ?_
  refine VL.nil ?_
  refine VE.then_wp ?_
  refine V.seq ?_
  refine V.cond rfl (fun h4 => ?_) (fun h4 => ?_)
  · skip
    replace h4 := ic_lss h4
    refine V.skip ?_
    refine VE.then_wp ?_
    refine V.seq ?_
    refine V.block ?_
    refine V.seq ?_
    refine V.region ?_
    refine VL.r (.inl rfl) rfl (by decide) (yr_move rfl rfl) ?_
    refine VL.r (.inl rfl) rfl (by decide) (yr_assign rfl rfl) ?_
    refine VL.nil ?_
    refine VE.then_wp ?_
    refine V.seq ?_
    refine V.region ?_
    refine VL.r (.inl rfl) rfl (by decide) (yr_move rfl rfl) ?_
    refine VL.r (.inl rfl) rfl (by decide) (yr_ofInt rfl Try.underlying2 Try.underlying25 rfl) ?_
    refine VL.r (.inl rfl) rfl (by decide) (yr_move rfl rfl) ?_
    refine VL.r (.inl rfl) rfl (by decide) (yr_ofInt rfl Try.underlying2 Try.underlying25 rfl) ?_
    refine VL.r (.inl rfl) rfl (by decide) (yr_float rfl (.inr (.inr (.inr rfl))) rfl rfl) ?_
    refine VL.r (.inl rfl) rfl (by decide) (yr_assign rfl rfl) ?_
    refine VL.nil ?_
    refine VE.then_wp ?_
    refine V.draw [(0, 0), (1, 0), (2, 0), (3, 0), (4, 0), (5, 0), (6, 0), (7, 0), (8, 0), (9, 0), (10, 0), (11, 0), (12, 0), (13, 1), (14, 3), (15, 0), (16, 3)] mixed_Lv (by kernel_rfl) (by intro j o hj; simp at hj) ?_
    refine SW.r rfl (.inl rfl) rfl (by decide) (yr_fieldAddr rfl Try.underlying27 rfl rfl sz24_Lv (by decide) rfl) ?_
    refine SW.q rfl (.inl rfl) rfl (by decide) (yq_load rfl fb24_Lv rfl zz0 rfl) ?_
    refine SW.r rfl (.inl rfl) rfl (by decide) (yr_move rfl rfl) ?_
    refine SW.r rfl (.inl rfl) rfl (by decide) (yr_move rfl rfl) ?_
    refine SW.r rfl (.inl rfl) rfl (by decide) (yr_float (b := 1048576000) rfl (.inl rfl) rfl rfl) ?_
    refine SW.q rfl (.inl rfl) rfl (by decide) (yq_callf rfl known21_Lv (.cons rfl .nil) (fun w hw => (c_icSine (i := icI k) (ic_ok1 (by omega))))) ?_
    refine SW.r rfl (.inl rfl) rfl (by decide) (yr_float rfl (.inr (.inr (.inl rfl))) rfl rfl) ?_
    refine SW.r rfl (.inl rfl) rfl (by decide) (yr_move rfl rfl) ?_
    refine SW.r rfl (.inl rfl) rfl (by decide) (yr_move rfl rfl) ?_
    refine SW.q rfl (.inl rfl) rfl (by decide) (yq_callf rfl known21_Lv (.cons rfl .nil) (fun w hw => (c_icSine (i := 0) (ic_ok2 (by omega))))) ?_
    refine SW.r rfl (.inl rfl) rfl (by decide) (yr_float rfl (.inr (.inr (.inl rfl))) rfl rfl) ?_
    refine SW.r rfl (.inl rfl) rfl (by decide) (yr_move rfl rfl) ?_
    refine SW.r rfl (.inl rfl) rfl (by decide) (yr_build rfl lay32_Lv rfl (.cons rfl (.cons rfl (.cons rfl .nil))) zz7 rfl) ?_
    refine SW.new1 rfl (.inl rfl) rfl (by decide) (yn_buildSlice rfl Try.underlying24 elt32_Lv rfl (by decide) (.cons rfl .nil) (by first | (simp; done) | (simp [vv]; done)) rfl rfl) ?_
    intro b51
    refine SW.c rfl (.inl rfl) rfl (by decide) (yc_appendz 3 rfl rfl Try.underlying24 elt32_Lv rfl rfl zz3 zz0 rfl (by first | (rw [vl_length]; done) | (rw [vl_length, icL_length]; done) | rfl) rfl (by first | rfl | exact vl_scal _) rfl (by omega) (by omega)) ?_
    rintro ⟨a52, c52⟩
    refine SW.r rfl (.inl rfl) rfl (by decide) (yr_fieldAddr rfl Try.underlying27 rfl rfl sz24_Lv (by decide) rfl) ?_
    refine SW.s rfl (.inl rfl) rfl (yc_store rfl sz24_Lv rfl rfl zz3 (.inl ⟨rfl, rfl⟩) rfl zz4 (by decide) rfl) ?_
    rintro ⟨⟩
    refine SW.done ?_
    refine VE.block_normal ?_
    refine VE.then_wp ?_
    refine V.region ?_
    refine VL.r (.inl rfl) rfl (by decide) (yr_int rfl rfl rfl (.inl ⟨rfl, wrap_in (by omega)⟩)) ?_
    refine VL.r (.inl rfl) rfl (by decide) (yr_move rfl rfl) ?_
    refine VL.nil ?_
    refine VE.round (k + 1, a52, c52) ?_ ?_ ?_ ?_ ?_
    · exact (.cons rfl .nil)
    · exact (.cons rfl (.cons rfl (.cons rfl (.cons rfl (.cons rfl (.cons rfl .nil))))))
    · exact (fun w hw => by dsimp only; rw [← icL_vl]; exact hw.pick (by apply Pick.cons1; (· repeat (first | exact Rem.here | exact Rem.all | exact Rem.hereS | apply Rem.there | apply Rem.thereS)); apply Pick.cons1; (· repeat (first | exact Rem.here | exact Rem.all | exact Rem.hereS | apply Rem.there | apply Rem.thereS)); apply Pick.cons1; (· repeat (first | exact Rem.here | exact Rem.all | exact Rem.hereS | apply Rem.there | apply Rem.thereS)); exact Pick.nil))
    · (try dsimp only); omega
    · (try dsimp only); omega
  replace h4 := ic_lss' h4
  obtain rfl : k = 12 := by omega
  refine V.exit ?_
  refine VE.then_exit ?_
  refine VE.then_exit ?_
  refine VE.block_here ?_
  refine VE.then_wp ?_
  refine V.seq ?_
  refine V.region ?_
  refine VL.q (.inl rfl) rfl (by decide) (yq_loadS rfl Try.underlying27 sz27_Lv rfl zz0 rfl rfl rfl) ?_
  refine VL.q (.inl rfl) rfl (by decide) (yq_callf rfl known22_Lv (.cons rfl .nil) (fun w hw => (c_ifWire (ps := icL 12) (cl := true) (cur := 1065353216) zz2 (by rw [icL_length]; decide) ic_wire))) ?_
  refine VL.r (.inl rfl) rfl (by decide) (yr_extract rfl rfl rfl (by nofun)) ?_
  refine VL.r (.inl rfl) rfl (by decide) (yr_extract rfl rfl rfl (by nofun)) ?_
  refine VL.s (.inl rfl) rfl (yc_store rfl sz27_Lv rfl rfl zz3 (.inr ⟨rfl, rfl⟩) rfl zz4 (by decide) rfl) ?_
  rintro ⟨⟩
  refine VL.r (.inl rfl) rfl (by decide) (yr_assign rfl rfl) ?_
  refine VL.nil ?_
  refine VE.then_wp ?_
  refine V.ret ?_
  refine retN rfl (.cons (rv_cellS rfl Try.underlying27 sz27_Lv zz0 rfl rfl rfl) (.cons (rv_tmp rfl (by nofun)) .nil)) (by nofun) (fun w1 hw => ?_)
  exact ⟨(ar, cr), rfl, (hw.pick (by apply Pick.cons1; (· repeat (first | exact Rem.here | exact Rem.all | exact Rem.hereS | apply Rem.there | apply Rem.thereS)); exact Pick.nil)).out1⟩
end Go.Proofs.Ytfkblhlkeglilaa

namespace Go.Proofs.Ytfkblhlkeglilaa
open Go.RowKit Go.Deep
section
variable {P : Program} {w0 : World} {O : List Ent} {E : Env} {o : Oper}
end
theorem nn2 {k : FloatKind} {a b : Nat} (h1 : fnan k a = false) (h2 : fnan k b = false) : ∀ z ∈ [a, b], fnan k z = false := by
  intro z hz; simp only [List.mem_cons, List.mem_nil_iff, or_false] at hz; rcases hz with rfl | rfl <;> assumption
section
variable {vs us : List V3} {ks : Nat → Nat} {i M : Nat}
end
end Go.Proofs.Ytfkblhlkeglilaa

namespace Go.Proofs.Ytfkblhlkeglilaa
open Go.RowKit
def VEqB (P : Program) (t : TypeId) : Bool := match (P.fieldsOf t).toList with
  | [f1, f2, f3] => f1.name != "_" && f2.name != "_" && f3.name != "_" && f1.offset == 0 && f2.offset == 1 && f3.offset == 2 && f1.type == f2.type && f1.type == f3.type && (match P.underlying f1.type with | some (.float .f32) => true | _ => false) && !P.stoodInHeld t && !P.eqGuardType P.depth t
  | _ => false
section
variable {P : Program} {n : Nat} {w0 : World} {O : List Ent} {E : Env} {o : Oper}
theorem veqB_is {t : TypeId} (h : VEqB P t = true) : ∃ f1 f2 f3, (P.fieldsOf t).toList = [f1, f2, f3] ∧ (f1.name ≠ "_" ∧ f2.name ≠ "_" ∧ f3.name ≠ "_") ∧ (f1.offset = 0 ∧ f2.offset = 1 ∧ f3.offset = 2) ∧ f2.type = f1.type ∧ f3.type = f1.type ∧ P.underlying f1.type = some (.float .f32) ∧ P.stoodInHeld t = false ∧ P.eqGuardType P.depth t = false := by
  unfold VEqB at h
  split at h
  · rename_i f1 f2 f3 heq
    simp only [Bool.and_eq_true, bne_iff_ne, beq_iff_eq, Bool.not_eq_true'] at h
    obtain ⟨⟨⟨⟨⟨⟨⟨⟨⟨⟨h1, h2⟩, h3⟩, h4⟩, h5⟩, h6⟩, h7⟩, h8⟩, h9⟩, h10⟩, h11⟩ := h
    refine ⟨f1, f2, f3, heq, ⟨h1, h2, h3⟩, ⟨h4, h5, h6⟩, h7.symm, h8.symm, ?_, h10, h11⟩
    split at h9
    · assumption
    · cases h9
  · cases h
theorem run_isAgg_f {t : TypeId} (h : P.underlying t = some (.float .f32)) (w : World) : (isAgg t).run P w = .ok false w := run_isAgg_flat (by unfold flatB; rw [h]) w
theorem run_eqF {t : TypeId} (h : P.underlying t = some (.float .f32)) (d a b : Nat) (w : World) : (Op.equalIn (d + 1) t (.float .f32 a) (.float .f32 b)).run P w = .ok (Op.floatEq .f32 a b) w := by
  simp [Op.equalIn, run_underlying h]
theorem yr_veq {op : BinOp} {t ty : TypeId} {x y : Operand} {a b : V3} (ho : o.op = .binOp op t x y ty) (hop : op = .eql ∨ op = .neq) (ht : P.underlying t = some (.struct (P.fieldsOf t))) (hv : VEqB P t = true)
    (hx : E.opd x = some (vv a)) (hy : E.opd y = some (vv b)) (hab : a = b) (h1 : fnan .f32 a.1 = false) (h2 : fnan .f32 a.2.1 = false) (h3 : fnan .f32 a.2.2 = false) : YR P E o (.bool (match op with | .eql => true | _ => false)) := yr_of fun ρ w hE => by
  subst hab
  obtain ⟨f1, f2, f3, hfs, ⟨n1, n2, n3⟩, ⟨o1, o2, o3⟩, t2, t3, tu, hst, hg⟩ := veqB_is hv
  obtain ⟨xs, e1, e2⟩ := cn_agg (hE.get (x := x) (by simp [ho, Op.operands]) hx)
  obtain ⟨ys, g1, g2⟩ := cn_agg (hE.get (x := y) (by simp [ho, Op.operands]) hy)
  have key : ∀ {zs : Array Value}, zs.map cn0 = #[.float .f32 a.1, .float .f32 a.2.1, .float .f32 a.2.2] → ∃ b1 b2 b3, zs = #[.float .f32 b1, .float .f32 b2, .float .f32 b3] ∧ cb .f32 b1 = a.1 ∧ cb .f32 b2 = a.2.1 ∧ cb .f32 b3 = a.2.2 := by
    intro zs hz
    have hl := congrArg Array.toList hz
    rw [Array.toList_map] at hl
    have ez : zs = zs.toList.toArray := rfl
    rw [ez]
    generalize zs.toList = l at *
    match l, hl with
    | [z1, z2, z3], hl =>
      simp only [List.map_cons, List.map_nil, List.cons.injEq, and_true] at hl
      obtain ⟨q1, q2, q3⟩ := hl
      have c0 : ∀ {v : Value} {r : Nat}, cn0 v = .float .f32 r → ∃ b, v = .float .f32 b ∧ cb .f32 b = r := by
        intro v r hv
        cases v <;> simp [cn0] at hv ⊢
        obtain ⟨rfl, h⟩ := hv; exact ⟨_, ⟨rfl, rfl⟩, h⟩
      obtain ⟨b1, rfl, r1⟩ := c0 q1
      obtain ⟨b2, rfl, r2⟩ := c0 q2
      obtain ⟨b3, rfl, r3⟩ := c0 q3
      exact ⟨b1, b2, b3, rfl, r1, r2, r3⟩
    | [], hl => simp at hl
    | [_], hl => simp at hl
    | [_, _], hl => simp at hl
    | _ :: _ :: _ :: _ :: _, hl => simp at hl
  obtain ⟨x1, x2, x3, rfl, c1, c2, c3⟩ := key e2
  obtain ⟨y1, y2, y3, rfl, d1, d2, d3⟩ := key g2
  have feq : ∀ {p q r : Nat}, cb .f32 p = r → cb .f32 q = r → fnan .f32 r = false → Op.floatEq .f32 p q = true := by
    intro p q r hp hq hr
    have h9 : fcmp .eql .f32 (cb .f32 p) (cb .f32 q) = true := by
      rw [hp, hq]
      show (FloatKind.f32.format.order r r == some .eq) = true
      rw [order_self hr]; rfl
    rw [fcmp_cb] at h9
    exact h9
  have heq : (Op.equalIn 10000 t (.agg #[.float .f32 x1, .float .f32 x2, .float .f32 x3]) (.agg #[.float .f32 y1, .float .f32 y2, .float .f32 y3])).run P w = .ok true w := by
    rw [run_equalIn_agg w 9999 t _ _ ht hst, hfs]
    simp [Op.eqFields, n1, n2, n3, o1, o2, o3, t2, t3, part, run_isAgg_f tu, run_eqF tu 9998, feq c1 d1 h1, feq c2 d2 h2, feq c3 d3 h3]
  rcases hop with rfl | rfl
  · exact ⟨.bool true, by simp [execOp, ho, e1, g1, run_eqGuard_agg w _ t x y _ _ hg, run_eql_struct, heq], rfl⟩
  · exact ⟨.bool false, by simp [execOp, ho, e1, g1, run_eqGuard_agg w _ t x y _ _ hg, run_neq_struct, heq], rfl⟩
end
theorem tmodN (a b : Nat) : ((a : Int)).tmod (b : Int) = ((a % b : Nat) : Int) := (Int.ofNat_tmod _ _).symm
section
variable {P : Program} {E : Env} {o : Oper}
theorem yr_remN {t ty : TypeId} {x y : Operand} {p q : Int} (a b : Nat) (ho : o.op = .binOp .rem t x y ty) (hx : E.opd x = some (.int .i64 p)) (hy : E.opd y = some (.int .i64 q)) (hp : p = (a : Int)) (hq : q = (b : Int)) (hb : 0 < b) : YR P E o (.int .i64 ((a % b : Nat) : Int)) := by
  subst hp; subst hq
  have h := yr_rem (P := P) ho hx hy (by omega)
  rwa [tmodN] at h
end
end Go.Proofs.Ytfkblhlkeglilaa
