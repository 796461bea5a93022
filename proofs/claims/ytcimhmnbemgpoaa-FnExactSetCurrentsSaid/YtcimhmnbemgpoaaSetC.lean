/- Wires with other currents. -/
import Derived.Test.YtcimhmnbemgpoaaMarkK
namespace Go.Proofs.Ytcimhmnbemgpoaa
open Go.RowKit

def setW (ws : List Wr) (x : List Nat) : List Wr := (List.range ws.length).map fun i => ((ws.getD i zw).1, (ws.getD i zw).2.1, x.getD i 0)
section
variable {ws : List Wr} {x : List Nat} {k : Nat} {g : Nat → Option Addr × Nat} {t : TypeId}
theorem setW_length : (setW ws x).length = ws.length := by simp [setW]
theorem setW_get (h : k < ws.length) : (setW ws x).getD k zw = ((ws.getD k zw).1, (ws.getD k zw).2.1, x.getD k 0) := by simp [setW, List.getD, h]
theorem whd_setW {a : Option Addr} {c : Nat} (h : k < ws.length) : whd g ((setW ws x).take k) ++ [.slice a (ws.getD k zw).1.length c, .bool (ws.getD k zw).2.1, .float .f32 (x.getD k 0)] = whd (upd g k (a, c)) ((setW ws x).take (k + 1)) := by
  have hlk : ((setW ws x).take k).length = k := by rw [List.length_take, setW_length]; omega
  have := whd_snoc g (a, c) ((setW ws x).getD k zw) ((setW ws x).take k)
  rw [hlk, wtake_snoc (by rw [setW_length]; exact h)] at this
  rw [← this, setW_get h]
  rfl
theorem Hp.snocW {w0 w : World} {A : List Ent} (h : k < ws.length) (p : Option Addr × Nat) (hw : Hp w0 (⟨p.1, vl (ws.getD k zw).1, p.2 * 3, t⟩ :: (A ++ wrents t g ((setW ws x).take k))) w) : Hp w0 (A ++ wrents t (upd g k p) ((setW ws x).take (k + 1))) w := by
  have e := wrents_take (t := t) (f := g) (ws := setW ws x) (k := k) (by rw [setW_length]; exact h) p
  rw [setW_get h] at e
  rw [← e]
  refine hw.perm' ?_
  rw [← List.append_assoc]
  exact (List.perm_append_comm (l₁ := [_]))
theorem setW_take : (setW ws x).take ws.length = setW ws x := List.take_of_length_le (by rw [setW_length]; exact Nat.le_refl _)
end
def scOk (ws : List Wr) (x : List Nat) : Bool := dwOk ws && decide (x.length = ws.length) && x.all fin
def scV (ws : List Wr) (x : List Nat) : List Wr := if scOk ws x then setW ws x else []
section
variable {ws : List Wr} {x : List Nat} {k : Nat}
theorem sc_yes (h1 : dwOk ws = true) (h2 : x.length = ws.length) (h3 : ∀ j, j < ws.length → fin (x.getD j 0) = true) : scOk ws x = true := by
  unfold scOk; rw [h1, decide_eq_true h2, all_getD.2 (fun j hj => h3 j (by omega))]; rfl
theorem sc_no1 (h : dwOk ws = false) : scOk ws x = false := by unfold scOk; rw [h]; rfl
theorem sc_no2 (h : ¬ x.length = ws.length) : scOk ws x = false := by unfold scOk; rw [decide_eq_false h, Bool.and_false]; rfl
theorem sc_no3 (hk : k < x.length) (h : fin (x.getD k 0) = false) : scOk ws x = false := by
  have : x.all fin = false := by
    rw [Bool.eq_false_iff]
    intro ha
    rw [all_getD.1 ha k hk] at h
    cases h
  unfold scOk; rw [this, Bool.and_false]
theorem scV_yes (h : scOk ws x = true) : scV ws x = setW ws x := by unfold scV; rw [h]; rfl
theorem scV_no (h : scOk ws x = false) : scV ws x = [] := by unfold scV; rw [h]; rfl
theorem wire_cur {w : Wr} {c : Nat} (h : wireOk w = true) : wireOk (w.1, w.2.1, c) = fin c := by
  have h1 := wire_is h
  exact (wire_yes ⟨h1.1, h1.2.1⟩ h1.2.2.1).symm
theorem dw_row (h : dwOk ws = true) (hk : k < ws.length) : wireOk (ws.getD k zw) = true := by
  unfold dwOk at h
  rw [Bool.and_eq_true] at h
  exact wall_getD.1 h.2 k hk
theorem cans_scV (hw : CansW ws) (hx : ∀ y ∈ x, Can .f32 y) : CansW (scV ws x) := by
  cases h : scOk ws x
  · rw [scV_no h]; intro w hw; cases hw
  · rw [scV_yes h]
    unfold scOk at h
    simp only [Bool.and_eq_true, decide_eq_true_eq] at h
    intro w hm
    obtain ⟨i, hi, rfl⟩ := List.mem_map.1 hm
    have hi : i < ws.length := by simpa using hi
    refine ⟨(hw.row hi).1, ?_⟩
    have hix : i < x.length := by omega
    exact hx _ (by simp [hix])
theorem scV_bulk : wbulk (scV ws x) ≤ wbulk ws := by
  cases h : scOk ws x
  · rw [scV_no h]; simp [wbulk, wsum]
  · rw [scV_yes h]
    have key : ∀ k, k ≤ ws.length → wsum (setW ws x) k = wsum ws k := by
      intro k
      induction k with
      | zero => intro _; rw [wsum_zero, wsum_zero]
      | succ k ih => intro hk; rw [wsum_succ (by rw [setW_length]; omega), wsum_succ (by omega), ih (by omega), setW_get (by omega)]
    unfold wbulk
    rw [setW_length, key _ (Nat.le_refl _)]
    exact Nat.le_refl _
end
end Go.Proofs.Ytcimhmnbemgpoaa
