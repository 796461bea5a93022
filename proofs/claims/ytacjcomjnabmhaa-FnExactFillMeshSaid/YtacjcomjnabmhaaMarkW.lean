/- Marks in vectors and wires; the places of a line. -/
import Derived.Test.YtacjcomjnabmhaaFine
namespace Go.Proofs.Ytacjcomjnabmhaa
open Go.RowKit

def flat : List V3 → List Nat
  | [] => []
  | v :: vs => v.1 :: v.2.1 :: v.2.2 :: flat vs
theorem vl_flat : ∀ vs : List V3, vl vs = fl (flat vs)
  | [] => rfl
  | v :: vs => by
    have ih := vl_flat vs
    simp only [vl, flat, ih, fl, List.map_cons]
theorem flat_length : ∀ vs : List V3, (flat vs).length = vs.length * 3
  | [] => rfl
  | v :: vs => by simp only [flat, List.length_cons, flat_length vs]; omega
theorem marks3 {ys : List Nat} {k0 : Int} {n k : Nat} (hl : ys.length = n * 3) (ht : ys.take (k * 3) = marks k0 (k * 3)) (hk : k < n) :
    (((ys.set (k * 3) (FloatKind.f32.nearest (k0 + ((k * 3 : Nat) : Int)))).set (k * 3 + 1) (FloatKind.f32.nearest (k0 + ((k * 3 : Nat) : Int) + 1))).set (k * 3 + 2) (FloatKind.f32.nearest (k0 + ((k * 3 : Nat) : Int) + 1 + 1))).take ((k + 1) * 3) = marks k0 ((k + 1) * 3) := by
  have h1 := take_marks hl ht (by omega)
  have h2 := take_marks (n := n * 3) (by simp [hl]) h1 (by omega)
  have h3 := take_marks (n := n * 3) (by simp [hl]) h2 (by omega)
  rw [show k0 + ((k * 3 + 1 : Nat) : Int) = k0 + ((k * 3 : Nat) : Int) + 1 by omega, show k0 + ((k * 3 + 1 + 1 : Nat) : Int) = k0 + ((k * 3 : Nat) : Int) + 1 + 1 by omega] at h3
  rw [show (k + 1) * 3 = k * 3 + 1 + 1 + 1 by omega]
  exact h3
/-- A list of headers of wires of which the points alone are told. -/
def WH (f : Nat → Option Addr × Nat) (ws : List Wr) (us : List Value) : Prop := us.length = ws.length * 3 ∧ us.all scal = true ∧ ∀ i, i < ws.length → us[i * 3]? = some (.slice (f i).1 (ws.getD i zw).1.length (f i).2)
theorem WH.first (f : Nat → Option Addr × Nat) (ws : List Wr) : WH f ws (whd f ws) := ⟨whd_length f ws, whd_scal f ws, fun _ h => whd_get0 h⟩
theorem WH.set {f : Nat → Option Addr × Nat} {ws : List Wr} {us : List Value} {j : Nat} {v : Value} (h : WH f ws us) (hj : j % 3 ≠ 0) (hv : scal v = true) : WH f ws (us.set j v) := by
  refine ⟨by rw [List.length_set]; exact h.1, ?_, fun i hi => ?_⟩
  · rw [List.all_eq_true]
    intro x hx
    rcases List.mem_or_eq_of_mem_set hx with h1 | h1
    · exact (List.all_eq_true.1 h.2.1) x h1
    · rw [h1]; exact hv
  · rw [List.getElem?_set_ne (by omega)]
    exact h.2.2 i hi
theorem wrents_drop {t : TypeId} {f : Nat → Option Addr × Nat} {ws : List Wr} {k : Nat} (h : k < ws.length) : (wrents t f ws).drop k = ⟨(f k).1, vl (ws.getD k zw).1, (f k).2 * 3, t⟩ :: (wrents t f ws).drop (k + 1) := by
  have hl : (wrents t f ws).length = ws.length := by simp [wrents]
  rw [List.drop_eq_getElem_cons (by omega)]
  congr 1
  simp [wrents]

/-! ### a line -/
def lnL (ws : List Wr) (p : V3) (st k : Nat) : List V3 := (List.range (k + 1)).map fun i => (stK ws p st i).1
def lnM (ws : List Wr) (p : V3) (st n : Nat) : Nat := if 0 ≤ idxI (fun i => !(stK ws p st (i + 1)).2) n then (idxI (fun i => !(stK ws p st (i + 1)).2) n).toNat else n
section
variable {ws : List Wr} {p : V3} {st k n : Nat}
theorem lnL_length : (lnL ws p st k).length = k + 1 := by simp [lnL]
theorem lnL_zero : lnL ws p st 0 = [p] := by simp [lnL, stK]
theorem lnL_snoc : vl (lnL ws p st k) ++ vl [(stK ws p st (k + 1)).1] = vl (lnL ws p st (k + 1)) := by
  rw [vl_append]; unfold lnL; rw [List.range_succ (n := k + 1)]; simp
theorem lnL_get {i : Nat} (h : i < k + 1) : (lnL ws p st k).getD i z3 = (stK ws p st i).1 := by simp [lnL, List.getD, h]
theorem lnM_all (h : ∀ j, j < n → (stK ws p st (j + 1)).2 = true) : lnM ws p st n = n := by
  unfold lnM
  rw [idxI_no (fun j hj => by rw [h j hj]; rfl)]
  rfl
theorem lnM_at (h : ∀ j, j < k → (stK ws p st (j + 1)).2 = true) (hk : k < n) (h2 : (stK ws p st (k + 1)).2 = false) : lnM ws p st n = k := by
  unfold lnM
  rw [idxI_of (k := k) (fun j hj => by rw [h j hj]; rfl) (by rw [h2]; rfl) hk]
  simp
theorem lnM_le : lnM ws p st n ≤ n := by
  unfold lnM; split
  · have := idxI_lt (fun i => !(stK ws p st (i + 1)).2) n
    omega
  · exact Nat.le_refl _
theorem cans_lnL (hp : Can3 p) : Cans3 (lnL ws p st k) := by
  intro v hv
  obtain ⟨i, _, rfl⟩ := List.mem_map.1 hv
  exact can_stK hp _
end
def lnR (ws : List Wr) (p : V3) (st n : Nat) : List V3 := lnL ws p st (lnM ws p st n)
theorem lnR_all {ws : List Wr} {p : V3} {st n : Nat} (h : ∀ j, j < n → (stK ws p st (j + 1)).2 = true) : lnR ws p st n = lnL ws p st n := by unfold lnR; rw [lnM_all h]
theorem lnR_at {ws : List Wr} {p : V3} {st n k : Nat} (h : ∀ j, j < k → (stK ws p st (j + 1)).2 = true) (hk : k < n) (h2 : (stK ws p st (k + 1)).2 = false) : lnR ws p st n = lnL ws p st k := by unfold lnR; rw [lnM_at h hk h2]
def flineOk (ws : List Wr) (p : V3) (st : Nat) (rn : Int) : Bool := wiresOk ws && fin3 p && fin st && decide (0 ≤ rn ∧ rn ≤ 63)
def flineV (ws : List Wr) (p : V3) (st : Nat) (rn : Int) : List V3 := if flineOk ws p st rn then lnR ws p st rn.toNat else []
section
variable {ws : List Wr} {p : V3} {st : Nat} {rn : Int}
theorem fline_1 (h : wiresOk ws = false) : flineOk ws p st rn = false := by unfold flineOk; rw [h]; rfl
theorem fline_2 (h : fin3 p = false) : flineOk ws p st rn = false := by unfold flineOk; rw [h, Bool.and_false]; rfl
theorem fline_3 (h : fin st = false) : flineOk ws p st rn = false := by unfold flineOk; rw [h, Bool.and_false]; rfl
theorem fline_4 (h : decide (0 ≤ rn ∧ rn ≤ 63) = false) : flineOk ws p st rn = false := by unfold flineOk; rw [h, Bool.and_false]
theorem fline_yes (h1 : wiresOk ws = true) (h2 : fin3 p = true) (h3 : fin st = true) (h4 : decide (0 ≤ rn ∧ rn ≤ 63) = true) : flineOk ws p st rn = true := by unfold flineOk; rw [h1, h2, h3, h4]; rfl
theorem flineV_yes (h : flineOk ws p st rn = true) : flineV ws p st rn = lnR ws p st rn.toNat := by unfold flineV; rw [h]; rfl
theorem flineV_no (h : flineOk ws p st rn = false) : flineV ws p st rn = [] := by unfold flineV; rw [h]; rfl
theorem flineV_length : (flineV ws p st rn).length ≤ 64 := by
  unfold flineV; split
  · rename_i h
    unfold flineOk at h
    simp only [Bool.and_eq_true, decide_eq_true_eq] at h
    have := lnM_le (ws := ws) (p := p) (st := st) (n := rn.toNat)
    unfold lnR
    rw [lnL_length]
    omega
  · exact Nat.zero_le _
theorem cans_flineV (hp : Can3 p) : Cans3 (flineV ws p st rn) := by
  unfold flineV; split
  · exact cans_lnL hp
  · intro v hv; cases hv
end
end Go.Proofs.Ytacjcomjnabmhaa
