/- A mesh that is filled: plain words. -/
import Derived.Test.YtacjcomjnabmhaaMesh
import Derived.Test.YtacjcomjnabmhaaDsn
import Derived.Test.YtacjcomjnabmhaaLine
namespace Go.Proofs.Ytacjcomjnabmhaa
open Go.RowKit

theorem fin_sub_self {x : Nat} (h : fin (fop .sub .f32 x x) = true) : fin x = true := by
  cases hn : fnan .f32 x
  · rcases Nat.lt_or_ge (rng Ieee.single x) Ieee.single.infRung with hl | hl
    · exact fin_of_rng hl
    · exfalso
      have hi : Ieee.single.read x = .infinity (sgn Ieee.single x) := read_inf .f32 (Nat.le_antisymm (rng_le hn) hl)
      revert h
      unfold fop floatBits Ieee.Format.sub
      simp only [show FloatKind.f32.format = Ieee.single from rfl, hi]
      generalize sgn Ieee.single x = s
      cases s <;> decide
  · exfalso
    have h1 : fop .sub .f32 x x = qn .f32 := by simp [fop, floatBits_nan_left hn]
    rw [h1] at h; revert h; decide
theorem fin3_add {a b : V3} (h : fin3 (add3 a b) = true) : fin3 a = true := by
  unfold fin3 add3 at h
  simp only [Bool.and_eq_true] at h
  unfold fin3
  rw [(fin_add h.1.1).1, (fin_add h.1.2).1, (fin_add h.2).1]; rfl
theorem fin3_sumA {ws : List Wr} {p s0 : V3} : ∀ k, fin3 (sumA ws p s0 k) = true → fin3 s0 = true
  | 0, h => h
  | k + 1, h => fin3_sumA k (fin3_add h)
theorem fin3_sub_self {p : V3} (h : fin3 (sub3 p p) = true) : fin3 p = true := by
  unfold fin3 sub3 at h
  simp only [Bool.and_eq_true] at h
  unfold fin3
  rw [fin_sub_self h.1.1, fin_sub_self h.1.2, fin_sub_self h.2]; rfl
theorem fieldS_no {ws : List Wr} {p : V3} (h : fin3 p = false) : fin3 (fieldS ws p) = false := by
  cases h2 : fin3 (fieldS ws p)
  · rfl
  · unfold fieldS at h2
    rw [h] at h2
    have := fin3_sub_self (fin3_sumA _ h2)
    rw [h] at this; cases this
theorem fieldS_ok (ws : List Wr) (p : V3) : fin3 (fieldS ws p) = (fin3 p && fin3 (fieldI ws p)) := by
  cases h : fin3 p
  · rw [fieldS_no h]; rfl
  · rw [fieldS_fin h]; rfl

def plc (f : V3) (st W H k : Nat) : V3 := place3 f st (FloatKind.f32.nearest ((k % W : Nat) : Int)) (FloatKind.f32.nearest ((k / W % H : Nat) : Int)) (FloatKind.f32.nearest ((k / W / H : Nat) : Int))
def fiK (ws : List Wr) (f : V3) (st W H k : Nat) : List V3 := (List.range k).map fun i => fieldI ws (plc f st W H i)
def okN (ws : List Wr) (f : V3) (st W H k : Nat) : Bool := fin3 (plc f st W H k) && fin3 (fieldI ws (plc f st W H k))
def okK (ws : List Wr) (f : V3) (st W H : Nat) : Nat → Bool
  | 0 => true
  | k + 1 => okK ws f st W H k && okN ws f st W H k
section
variable {ws : List Wr} {f : V3} {st W H D x y z k : Nat} {wi hi de : Int}
theorem plc_nd (hx : x < W) (hy : y < H) : plc f st W H (nd W H x y z) = place3 f st (FloatKind.f32.nearest (x : Int)) (FloatKind.f32.nearest (y : Int)) (FloatKind.f32.nearest (z : Int)) := by
  unfold plc; rw [nd_x hx, nd_y hx hy, nd_z hx hy]
theorem fiK_length : (fiK ws f st W H k).length = k := by simp [fiK]
theorem fiK_snoc : vl (fiK ws f st W H k) ++ [.float .f32 (fieldI ws (plc f st W H k)).1, .float .f32 (fieldI ws (plc f st W H k)).2.1, .float .f32 (fieldI ws (plc f st W H k)).2.2] = vl (fiK ws f st W H (k + 1)) := by
  rw [vl_snoc]; unfold fiK; rw [List.range_succ]; simp
theorem can_plc : Can3 (plc f st W H k) := can_add3 _ _
theorem can_sumA {p s0 : V3} (h : Can3 s0) : ∀ k, Can3 (sumA ws p s0 k)
  | 0 => h
  | _ + 1 => can_add3 _ _
theorem cans_fiK : Cans3 (fiK ws f st W H k) := by
  intro v hv
  obtain ⟨i, _, rfl⟩ := List.mem_map.1 hv
  exact can_sumA can_z3 _
theorem okK_mono {a b : Nat} (h : a ≤ b) (h2 : okK ws f st W H a = false) : okK ws f st W H b = false := by
  obtain ⟨d, rfl⟩ : ∃ d, b = a + d := ⟨b - a, by omega⟩
  clear h
  induction d with
  | zero => exact h2
  | succ d ih => rw [← Nat.add_assoc, okK, ih]; rfl
theorem tmodN (a b : Nat) : ((a : Int)).tmod (b : Int) = ((a % b : Nat) : Int) := (Int.ofNat_tmod _ _).symm
theorem tdivN (a b : Nat) : ((a : Int)).tdiv (b : Int) = ((a / b : Nat) : Int) := (Int.ofNat_tdiv _ _).symm
end
section
variable {P : Program} {E : Env} {o : Oper}
theorem yr_remN {t ty : TypeId} {x y : Operand} {p q : Int} (a b : Nat) (ho : o.op = .binOp .rem t x y ty) (hx : E.opd x = some (.int .i64 p)) (hy : E.opd y = some (.int .i64 q)) (hp : p = (a : Int)) (hq : q = (b : Int)) (hb : 0 < b) : YR P E o (.int .i64 ((a % b : Nat) : Int)) := by
  subst hp; subst hq
  have h := yr_rem (P := P) ho hx hy (by omega)
  rwa [tmodN] at h
theorem yr_quoN {t ty : TypeId} {x y : Operand} {p q : Int} (a b : Nat) (ho : o.op = .binOp .quo t x y ty) (hx : E.opd x = some (.int .i64 p)) (hy : E.opd y = some (.int .i64 q)) (hp : p = (a : Int)) (hq : q = (b : Int)) (hb : 0 < b) (ha : a ≤ 9223372036854775807) : YR P E o (.int .i64 ((a / b : Nat) : Int)) := by
  subst hp; subst hq
  have h := yr_quo (P := P) ho hx hy (by omega) (wrap_quo (by omega))
  rwa [tdivN] at h
end
noncomputable def fiOk (ws : List Wr) (f : V3) (st : Nat) (wi hi de : Int) : Bool := wiresOk ws && fin3 f && above st && szOk wi hi de && okK ws f st wi.toNat hi.toNat (wi.toNat * hi.toNat * de.toNat)
noncomputable def fiL (ws : List Wr) (f : V3) (st : Nat) (wi hi de : Int) : List V3 := if fiOk ws f st wi hi de then fiK ws f st wi.toNat hi.toNat (wi.toNat * hi.toNat * de.toNat) else []
noncomputable def fiF (ws : List Wr) (f : V3) (st : Nat) (wi hi de : Int) : V3 := if fiOk ws f st wi hi de then f else z3
noncomputable def fiS (ws : List Wr) (f : V3) (st : Nat) (wi hi de : Int) : Nat := if fiOk ws f st wi hi de then st else 0
noncomputable def fiI (ws : List Wr) (f : V3) (st : Nat) (wi hi de n : Int) : Int := if fiOk ws f st wi hi de then n else 0
section
variable {ws : List Wr} {f : V3} {st W H D : Nat} {wi hi de n : Int}
theorem fiOk_yes (h1 : wiresOk ws = true) (h2 : fin3 f = true) (h3 : above st = true) (h4 : szOk wi hi de = true) (h5 : okK ws f st wi.toNat hi.toNat (wi.toNat * hi.toNat * de.toNat) = true) : fiOk ws f st wi hi de = true := by unfold fiOk; rw [h1, h2, h3, h4, h5]; rfl
theorem fiOk_no1 (h : wiresOk ws = false) : fiOk ws f st wi hi de = false := by unfold fiOk; rw [h]; rfl
theorem fiOk_no2 (h : fin3 f = false) : fiOk ws f st wi hi de = false := by unfold fiOk; rw [h, Bool.and_false]; rfl
theorem fiOk_no3 (h : above st = false) : fiOk ws f st wi hi de = false := by unfold fiOk; rw [h, Bool.and_false]; rfl
theorem fiOk_no4 (h : szOk wi hi de = false) : fiOk ws f st wi hi de = false := by unfold fiOk; rw [h, Bool.and_false]; rfl
theorem fiOk_no5 (h : okK ws f st wi.toNat hi.toNat (wi.toNat * hi.toNat * de.toNat) = false) : fiOk ws f st wi hi de = false := by unfold fiOk; rw [h, Bool.and_false]
theorem fiL_yes (h : fiOk ws f st wi hi de = true) : fiL ws f st wi hi de = fiK ws f st wi.toNat hi.toNat (wi.toNat * hi.toNat * de.toNat) := by unfold fiL; rw [h]; rfl
theorem fiF_yes (h : fiOk ws f st wi hi de = true) : fiF ws f st wi hi de = f := by unfold fiF; rw [h]; rfl
theorem fiS_yes (h : fiOk ws f st wi hi de = true) : fiS ws f st wi hi de = st := by unfold fiS; rw [h]; rfl
theorem fiI_yes (h : fiOk ws f st wi hi de = true) : fiI ws f st wi hi de n = n := by unfold fiI; rw [h]; rfl
theorem fiL_no (h : fiOk ws f st wi hi de = false) : fiL ws f st wi hi de = [] := by unfold fiL; rw [h]; rfl
theorem fiF_no (h : fiOk ws f st wi hi de = false) : fiF ws f st wi hi de = z3 := by unfold fiF; rw [h]; rfl
theorem fiS_no (h : fiOk ws f st wi hi de = false) : fiS ws f st wi hi de = 0 := by unfold fiS; rw [h]; rfl
theorem fiI_no (h : fiOk ws f st wi hi de = false) : fiI ws f st wi hi de n = 0 := by unfold fiI; rw [h]; rfl
theorem cans_fiL : Cans3 (fiL ws f st wi hi de) := by
  unfold fiL; split
  · exact cans_fiK
  · intro v hv; cases hv
theorem can_fiF (h : Can3 f) : Can3 (fiF ws f st wi hi de) := by unfold fiF; split; exact h; exact can_z3
theorem can_fiS (h : Can .f32 st) : Can .f32 (fiS ws f st wi hi de) := by unfold fiS; split; exact h; exact can_f0
theorem fiL_length : (fiL ws f st wi hi de).length ≤ 216 := by
  unfold fiL; split
  · rename_i h
    unfold fiOk at h
    simp only [Bool.and_eq_true] at h
    obtain ⟨W, H, D, rfl, rfl, rfl, _, _, _, _, _, _, h1⟩ := szOk_is h.1.2
    rw [fiK_length]
    exact h1
  · simp
end
end Go.Proofs.Ytacjcomjnabmhaa
