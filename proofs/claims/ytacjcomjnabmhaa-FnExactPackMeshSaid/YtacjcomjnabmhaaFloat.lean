/- Floats up to the bits of a not-a-number: the operations as functions on canonical words, and that the model's operations are these. -/
import Derived.Test.YtacjcomjnabmhaaCore
namespace Go.Proofs.Ytacjcomjnabmhaa
open Go.RowKit

/-! ### plain facts on words -/
theorem cb_of_num {k : FloatKind} {b : Nat} (h : fnan k b = false) (_ : b < 2 ^ k.format.width) : cb k b = b := by simp [cb, h]
theorem cb_num {k : FloatKind} {b : Nat} (h : fnan k b = false) : cb k b = b := by simp [cb, h]
theorem cb_of_nan {k : FloatKind} {b : Nat} (h : fnan k b = true) : cb k b = qn k := by simp [cb, h]
theorem fnan_qn (k : FloatKind) : fnan k (qn k) = true := by cases k <;> decide
theorem fnan_cb (k : FloatKind) (b : Nat) : fnan k (cb k b) = fnan k b := by
  cases h : fnan k b
  · rw [cb_num h, h]
  · rw [cb_of_nan h, fnan_qn]
theorem cb_lt (k : FloatKind) {b : Nat} (hb : b < 2 ^ k.format.width) : cb k b < 2 ^ k.format.width := by
  cases h : fnan k b
  · rw [cb_num h]; exact hb
  · rw [cb_of_nan h]; cases k <;> decide
theorem read_cb {k : FloatKind} {b : Nat} (h : fnan k b = false) : k.format.read (cb k b) = k.format.read b := by rw [cb_num h]
theorem read_nan {k : FloatKind} {b : Nat} (h : fnan k b = true) : ∃ s f, k.format.read b = .nan s f := by
  unfold fnan FloatKind.decode at h
  cases hr : k.format.read b <;> simp [hr, Ieee.Datum.isNaN] at h ⊢
theorem read_num {k : FloatKind} {b : Nat} (h : fnan k b = false) : (k.format.read b).isNaN = false := h

/-- the operations that hand back a datum: never a NaN -/
theorem sum_num {x y d : Ieee.Datum} (h : x.sum y = some d) : d.isNaN = false := by
  cases x <;> cases y <;> simp [Ieee.Datum.sum] at h <;> first | (subst h; rfl) | (obtain ⟨_, h⟩ := h; subst h; rfl)
theorem product_num {x y d : Ieee.Datum} (h : x.product y = some d) : d.isNaN = false := by
  cases x <;> cases y <;> simp [Ieee.Datum.product] at h <;> first | (subst h; rfl) | (obtain ⟨_, h⟩ := h; subst h; rfl)
theorem quotient_num {n : Nat} {x y d : Ieee.Datum} (h : x.quotient n y = some d) : d.isNaN = false := by
  cases x <;> cases y <;> simp only [Ieee.Datum.quotient] at h <;> try (first | (cases h; done) | (cases h; rfl))
  split at h
  · split at h
    · cases h
    · cases h; rfl
  · cases h; rfl
theorem root_num {n : Nat} {x d : Ieee.Datum} (h : x.root n = some d) : d.isNaN = false := by
  cases x <;> simp only [Ieee.Datum.root] at h
  · split at h
    · cases h; rfl
    · split at h
      · cases h
      · cases h; rfl
  · split at h
    · cases h
    · cases h; rfl
  · cases h

theorem read_word (f : Ieee.Format) (neg : Bool) {rung : Nat} (h : rung ≤ f.infRung) : (f.read (f.word neg rung)).isNaN = false := by
  have hlt := Ieee.Format.infRung_lt f
  have hs : 0 < f.signWeight := by omega
  have e : f.word neg rung % f.signWeight = rung := by
    unfold Ieee.Format.word
    split
    · rw [Nat.add_mod_left, Nat.mod_eq_of_lt (by omega)]
    · rw [Nat.mod_eq_of_lt (by omega)]
  unfold Ieee.Format.read
  simp only [e]
  split
  · rfl
  · split
    · rfl
    · split
      · rfl
      · omega
theorem write_num (f : Ieee.Format) {d : Ieee.Datum} (h : d.isNaN = false) : (f.read (f.write d)).isNaN = false := by
  cases d with
  | number s m e =>
    simp only [Ieee.Format.write, Ieee.Format.nearest]
    split
    · exact read_word f s (Nat.zero_le _)
    · exact read_word f s (Nat.min_le_right _ _)
  | infinity s => exact read_word f s (Nat.le_refl _)
  | nan s f => simp [Ieee.Datum.isNaN] at h

/-- An operation on two floats, on canonical words. -/
def fop (op : BinOp) (k : FloatKind) (x y : Nat) : Nat := (floatBits op k x y).getD (qn k)
@[reducible] def fadd (k : FloatKind) := fop .add k
@[reducible] def fsub (k : FloatKind) := fop .sub k
@[reducible] def fmul (k : FloatKind) := fop .mul k
@[reducible] def fdiv (k : FloatKind) := fop .quo k

theorem floatBits_num {op : BinOp} {k : FloatKind} {x y r : Nat} (h : floatBits op k x y = some r) : fnan k r = false := by
  unfold floatBits Ieee.Format.add Ieee.Format.sub Ieee.Format.mul Ieee.Format.div at h
  unfold fnan FloatKind.decode
  split at h
  · obtain ⟨d, hd, rfl⟩ := Option.map_eq_some_iff.1 h; exact write_num _ (sum_num hd)
  · obtain ⟨d, hd, rfl⟩ := Option.map_eq_some_iff.1 h; exact write_num _ (sum_num hd)
  · obtain ⟨d, hd, rfl⟩ := Option.map_eq_some_iff.1 h; exact write_num _ (product_num hd)
  · obtain ⟨d, hd, rfl⟩ := Option.map_eq_some_iff.1 h; exact write_num _ (quotient_num hd)
  · cases h
theorem sum_nan_left (s : Bool) (f : Nat) (y : Ieee.Datum) : (Ieee.Datum.nan s f).sum y = none := by cases y <;> rfl
theorem sum_nan_right (s : Bool) (f : Nat) (y : Ieee.Datum) : y.sum (Ieee.Datum.nan s f) = none := by cases y <;> rfl
theorem product_nan_left (s : Bool) (f : Nat) (y : Ieee.Datum) : (Ieee.Datum.nan s f).product y = none := by cases y <;> rfl
theorem product_nan_right (s : Bool) (f : Nat) (y : Ieee.Datum) : y.product (Ieee.Datum.nan s f) = none := by cases y <;> rfl
theorem quotient_nan_left (n : Nat) (s : Bool) (f : Nat) (y : Ieee.Datum) : (Ieee.Datum.nan s f).quotient n y = none := by cases y <;> rfl
theorem quotient_nan_right (n : Nat) (s : Bool) (f : Nat) (y : Ieee.Datum) : y.quotient n (Ieee.Datum.nan s f) = none := by cases y <;> rfl

theorem floatBits_nan_left {op : BinOp} {k : FloatKind} {x y : Nat} (h : fnan k x = true) : floatBits op k x y = none := by
  obtain ⟨s, f, hr⟩ := read_nan h
  unfold floatBits Ieee.Format.add Ieee.Format.sub Ieee.Format.mul Ieee.Format.div
  rw [hr]
  cases op <;> simp only [sum_nan_left, product_nan_left, quotient_nan_left, Option.map_none]
theorem floatBits_nan_right {op : BinOp} {k : FloatKind} {x y : Nat} (h : fnan k y = true) : floatBits op k x y = none := by
  obtain ⟨s, f, hr⟩ := read_nan h
  unfold floatBits Ieee.Format.add Ieee.Format.sub Ieee.Format.mul Ieee.Format.div
  rw [hr]
  cases op <;> simp only [sum_nan_right, product_nan_right, quotient_nan_right, Option.map_none, Ieee.Datum.opposite]
theorem floatBits_read {op : BinOp} {k : FloatKind} {x y x' y' : Nat} (hx : k.format.read x' = k.format.read x) (hy : k.format.read y' = k.format.read y) : floatBits op k x' y' = floatBits op k x y := by
  unfold floatBits Ieee.Format.add Ieee.Format.sub Ieee.Format.mul Ieee.Format.div
  rw [hx, hy]
theorem floatBits_cb (op : BinOp) (k : FloatKind) (x y : Nat) : floatBits op k (cb k x) (cb k y) = floatBits op k x y := by
  cases hx : fnan k x
  · cases hy : fnan k y
    · exact floatBits_read (read_cb hx) (read_cb hy)
    · rw [floatBits_nan_right (x := cb k x) (by rw [fnan_cb, hy]), floatBits_nan_right hy]
  · rw [floatBits_nan_left (by rw [fnan_cb, hx]), floatBits_nan_left hx]
theorem floatBits_lt {op : BinOp} {k : FloatKind} {x y r : Nat} (h : floatBits op k x y = some r) : r < 2 ^ k.format.width := by
  unfold floatBits at h
  split at h
  · exact k.format.add_lt h
  · exact k.format.sub_lt h
  · exact k.format.mul_lt h
  · exact k.format.div_lt h
  · cases h
theorem cut_nan (k : FloatKind) (x y t : Nat) : fnan k ((Question.nanBits k x y).cut t) = true := by
  cases k
  · have h : ∀ r : Nat, 2139095041 ≤ r % 2147483648 → (Ieee.single.read r).isNaN = true := by
      intro r hr
      have hsw : Ieee.single.signWeight = 2147483648 := by decide
      have hinf : Ieee.single.infRung = 2139095040 := by decide
      have hbin : Ieee.single.binade = 8388608 := by decide
      unfold Ieee.Format.read
      simp only [hsw, hinf, hbin]
      rw [if_neg (by omega), if_neg (by omega), if_neg (by omega)]
      rfl
    refine h _ ?_
    simp only [Question.cut]
    rcases Nat.mod_two_eq_zero_or_one t with ht | ht <;> rw [ht] <;> omega
  · have h : ∀ r : Nat, 9218868437227405313 ≤ r % 9223372036854775808 → (Ieee.double.read r).isNaN = true := by
      intro r hr
      have hsw : Ieee.double.signWeight = 9223372036854775808 := by decide
      have hinf : Ieee.double.infRung = 9218868437227405312 := by decide
      have hbin : Ieee.double.binade = 4503599627370496 := by decide
      unfold Ieee.Format.read
      simp only [hsw, hinf, hbin]
      rw [if_neg (by omega), if_neg (by omega), if_neg (by omega)]
      rfl
    refine h _ ?_
    simp only [Question.cut]
    rcases Nat.mod_two_eq_zero_or_one t with ht | ht <;> rw [ht] <;> omega
theorem cut_conv_nan (k : FloatKind) (x t : Nat) : fnan k ((Question.nanConv k x).cut t) = true := by
  have := cut_nan k 0 0 t
  cases k <;> exact this
theorem fop_cb (op : BinOp) (k : FloatKind) (x y : Nat) : fop op k (cb k x) (cb k y) = fop op k x y := by rw [fop, floatBits_cb, fop]
theorem cb_fop (op : BinOp) (k : FloatKind) (x y : Nat) : cb k (fop op k x y) = fop op k x y := by
  unfold fop
  cases h : floatBits op k x y with
  | none => rw [Option.getD_none, cb_of_nan (fnan_qn k)]
  | some r => rw [Option.getD_some, cb_of_num (floatBits_num h) (floatBits_lt h)]

/-! ### comparisons -/
theorem order_nan_left {k : FloatKind} {x y : Nat} (h : fnan k x = true) : k.format.order x y = none := by
  obtain ⟨s, f, hr⟩ := read_nan h
  unfold Ieee.Format.order
  rw [hr]; cases k.format.read y <;> rfl
theorem order_nan_right {k : FloatKind} {x y : Nat} (h : fnan k y = true) : k.format.order x y = none := by
  obtain ⟨s, f, hr⟩ := read_nan h
  unfold Ieee.Format.order
  rw [hr]; cases k.format.read x <;> rfl
theorem order_cb (k : FloatKind) (x y : Nat) : k.format.order (cb k x) (cb k y) = k.format.order x y := by
  cases hx : fnan k x
  · cases hy : fnan k y
    · unfold Ieee.Format.order; rw [read_cb hx, read_cb hy]
    · rw [order_nan_right (by rw [fnan_cb, hy]), order_nan_right hy]
  · rw [order_nan_left (by rw [fnan_cb, hx]), order_nan_left hx]
/-- A comparison of two floats. -/
def fcmp (op : BinOp) (k : FloatKind) (x y : Nat) : Bool :=
  match op with
  | .eql => k.format.order x y == some .eq
  | .neq => k.format.order x y != some .eq
  | .lss => k.format.order x y == some .lt
  | .leq => k.format.order x y == some .lt || k.format.order x y == some .eq
  | .gtr => k.format.order x y == some .gt
  | .geq => k.format.order x y == some .gt || k.format.order x y == some .eq
  | _ => false
@[reducible] def feq (k : FloatKind) := fcmp .eql k
@[reducible] def fne (k : FloatKind) := fcmp .neq k
@[reducible] def flt (k : FloatKind) := fcmp .lss k
@[reducible] def fle (k : FloatKind) := fcmp .leq k
@[reducible] def fgt (k : FloatKind) := fcmp .gtr k
@[reducible] def fge (k : FloatKind) := fcmp .geq k
theorem fcmp_cb (op : BinOp) (k : FloatKind) (x y : Nat) : fcmp op k (cb k x) (cb k y) = fcmp op k x y := by
  unfold fcmp; rw [order_cb]

/-! ### conversions -/
/-- One kind to the other. -/
def fconv (src dst : FloatKind) (b : Nat) : Nat :=
  if src = dst then b else
  match src.decode b with
  | .nan _ _ => qn dst
  | d => dst.encode d
/-- A finite number that the other kind has not the room for. -/
def fover (src dst : FloatKind) (b : Nat) : Bool :=
  if src = dst then false else
  match src.decode b with
  | .number s m e => (dst.decode (dst.encode (.number s m e))).isInfinity
  | _ => false
theorem decode_cb (k : FloatKind) (x : Nat) : (k.decode (cb k x) = k.decode x ∧ fnan k x = false) ∨ (∃ s f s' f', k.decode x = .nan s f ∧ k.decode (cb k x) = .nan s' f') := by
  cases hx : fnan k x
  · exact .inl ⟨read_cb hx, rfl⟩
  · obtain ⟨s, f, hr⟩ := read_nan hx
    obtain ⟨s', f', hr'⟩ := read_nan (k := k) (b := cb k x) (by rw [fnan_cb, hx])
    exact .inr ⟨s, f, s', f', hr, hr'⟩
theorem fconv_cb (src dst : FloatKind) (x : Nat) (h : src ≠ dst) : fconv src dst (cb src x) = fconv src dst x := by
  unfold fconv
  rw [if_neg h, if_neg h]
  rcases decode_cb src x with ⟨h1, _⟩ | ⟨s, f, s', f', h1, h2⟩
  · rw [h1]
  · rw [h1, h2]
theorem fover_cb (src dst : FloatKind) (x : Nat) : fover src dst (cb src x) = fover src dst x := by
  unfold fover
  rcases decode_cb src x with ⟨h1, _⟩ | ⟨s, f, s', f', h1, h2⟩
  · rw [h1]
  · rw [h1, h2]
theorem encode_lt (k : FloatKind) (d : Ieee.Datum) : k.encode d < 2 ^ k.format.width := k.format.write_lt d
theorem cb_fconv (src dst : FloatKind) (x : Nat) (h : src ≠ dst) : cb dst (fconv src dst x) = fconv src dst x := by
  unfold fconv
  rw [if_neg h]
  cases hd : src.decode x with
  | nan s f => exact cb_of_nan (fnan_qn dst)
  | number s m e => exact cb_of_num (write_num dst.format (d := .number s m e) rfl) (encode_lt _ _)
  | infinity s => exact cb_of_num (write_num dst.format (d := .infinity s) rfl) (encode_lt _ _)

theorem qn_lt (k : FloatKind) : qn k < 2 ^ k.format.width := by cases k <;> decide
theorem fconv_lt (src dst : FloatKind) (x : Nat) (h : src ≠ dst) : fconv src dst x < 2 ^ dst.format.width := by
  unfold fconv
  rw [if_neg h]
  split
  · exact qn_lt dst
  · exact encode_lt _ _
theorem fop_lt (op : BinOp) (k : FloatKind) (x y : Nat) : fop op k x y < 2 ^ k.format.width := by
  unfold fop
  cases h : floatBits op k x y with
  | some r => exact floatBits_lt h
  | none => exact qn_lt k
/-- The opposite. -/
def fneg (k : FloatKind) (x : Nat) : Nat := cb k (Op.negFloat k x)

end Go.Proofs.Ytacjcomjnabmhaa
