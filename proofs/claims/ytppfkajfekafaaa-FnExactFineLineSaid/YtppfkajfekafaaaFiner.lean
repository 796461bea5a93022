/- A line of steps in parts. -/
import Derived.Test.YtppfkajfekafaaaMarkW
namespace Go.Proofs.Ytppfkajfekafaaa
open Go.RowKit

/-- the place, the sum of the parts, whether all steps were made -/
def fiK (ws : List Wr) (p : V3) (st near : Nat) : Nat → V3 × Nat × Bool
  | 0 => (p, 0, true)
  | k + 1 => if (fiK ws p st near k).2.2 then (fnV ws (fiK ws p st near k).1 st near, (fiK ws p st near k).2.1 + fnN ws (fiK ws p st near k).1 st near, fnB ws (fiK ws p st near k).1 st near) else (z3, 0, false)
def fiL (ws : List Wr) (p : V3) (st near k : Nat) : List V3 := (List.range (k + 1)).map fun i => (fiK ws p st near i).1
def fiM (ws : List Wr) (p : V3) (st near n : Nat) : Nat := if 0 ≤ idxI (fun i => !(fiK ws p st near (i + 1)).2.2) n then (idxI (fun i => !(fiK ws p st near (i + 1)).2.2) n).toNat else n
section
variable {ws : List Wr} {p : V3} {st near k n : Nat}
theorem fiK_zero (ws : List Wr) (p : V3) (st near : Nat) : fiK ws p st near 0 = (p, 0, true) := rfl
theorem fiK_succ (h : (fiK ws p st near k).2.2 = true) : fiK ws p st near (k + 1) = (fnV ws (fiK ws p st near k).1 st near, (fiK ws p st near k).2.1 + fnN ws (fiK ws p st near k).1 st near, fnB ws (fiK ws p st near k).1 st near) := by rw [fiK, h]; rfl
theorem fiK_box (h : (fiK ws p st near k).2.2 = true) : fnV ws (fiK ws p st near k).1 st near = (fiK ws p st near (k + 1)).1 := by rw [fiK_succ h]
theorem fiK_sum (h : (fiK ws p st near k).2.2 = true) : (fiK ws p st near (k + 1)).2.1 = (fiK ws p st near k).2.1 + fnN ws (fiK ws p st near k).1 st near := by rw [fiK_succ h]
theorem fiK_sum_le : ∀ k, (fiK ws p st near k).2.1 ≤ 64 * k
  | 0 => Nat.zero_le _
  | k + 1 => by
    have ih := fiK_sum_le k
    have := fnN_le (ws := ws) (p := (fiK ws p st near k).1) (st := st) (near := near)
    rw [fiK]; split
    · simp only; omega
    · exact Nat.zero_le _
theorem stN_fin {n : Nat} (hp : fin3 p = true) (h : (stN ws p st n).2 = true) : fin3 (stN ws p st n).1 = true := by
  unfold stN at h ⊢
  revert h
  generalize hN st n = h0
  cases n with
  | zero => intro _; exact hp
  | succ k =>
    intro h
    cases hk : (stK ws p h0 k).2
    · rw [stK, hk] at h; cases h
    · rw [stK_succ hk] at h ⊢
      exact step_fin h
theorem fnV_fin (hp : fin3 p = true) (h : fnB ws p st near = true) : fin3 (fnV ws p st near) = true := by
  have h0 : 0 ≤ fnI ws p st near := of_decide_eq_true h
  have hlt : fnI ws p st near < ((6 : Nat) : Int) := idxI_lt _ _
  have hok : fineOk ws p st near (fnI ws p st near).toNat = true := idxI_ok h0
  unfold fnV; rw [h]
  unfold fineOk at hok
  simp only [Bool.and_eq_true] at hok
  exact stN_fin hp hok.1.2
where
  idxI_ok {q : Nat → Bool} : ∀ {n : Nat}, 0 ≤ idxI q n → q (idxI q n).toNat = true
    | 0, h => by exact absurd (show (0 : Int) ≤ -1 from h) (by decide)
    | n + 1, h => by
      rw [idxI] at h ⊢
      split at h
      · rename_i h1
        rw [if_pos h1]
        exact idxI_ok h1
      · rename_i h1
        rw [if_neg h1]
        split at h
        · rename_i h2
          rw [if_pos h2]; simpa using h2
        · exact absurd h (by decide)
theorem fiK_ok (h : (fiK ws p st near k).2.2 = true) (hf : fin3 (fiK ws p st near k).1 = true) (h2 : fnB ws (fiK ws p st near k).1 st near = true) : (fiK ws p st near (k + 1)).2.2 = true ∧ fin3 (fiK ws p st near (k + 1)).1 = true := by
  rw [fiK_succ h]; exact ⟨h2, fnV_fin hf h2⟩
theorem fiL_length : (fiL ws p st near k).length = k + 1 := by simp [fiL]
theorem fiL_zero : fiL ws p st near 0 = [p] := by simp [fiL, fiK]
theorem fiL_snoc : vl (fiL ws p st near k) ++ vl [(fiK ws p st near (k + 1)).1] = vl (fiL ws p st near (k + 1)) := by
  rw [vl_append]; unfold fiL; rw [List.range_succ (n := k + 1)]; simp
theorem fiL_get {i : Nat} (h : i < k + 1) : (fiL ws p st near k).getD i z3 = (fiK ws p st near i).1 := by simp [fiL, List.getD, h]
theorem fiM_all (h : ∀ j, j < n → (fiK ws p st near (j + 1)).2.2 = true) : fiM ws p st near n = n := by
  unfold fiM
  rw [idxI_no (fun j hj => by rw [h j hj]; rfl)]
  rfl
theorem fiM_at (h : ∀ j, j < k → (fiK ws p st near (j + 1)).2.2 = true) (hk : k < n) (h2 : (fiK ws p st near (k + 1)).2.2 = false) : fiM ws p st near n = k := by
  unfold fiM
  rw [idxI_of (k := k) (fun j hj => by rw [h j hj]; rfl) (by rw [h2]; rfl) hk]
  simp
theorem fiM_le : fiM ws p st near n ≤ n := by
  unfold fiM; split
  · have := idxI_lt (fun i => !(fiK ws p st near (i + 1)).2.2) n
    omega
  · exact Nat.le_refl _
theorem can_fiK (hp : Can3 p) : ∀ k, Can3 (fiK ws p st near k).1
  | 0 => hp
  | k + 1 => by
    rw [fiK]; split
    · exact can_fnV (can_fiK hp k)
    · exact can_z3
theorem cans_fiL (hp : Can3 p) : Cans3 (fiL ws p st near k) := by
  intro v hv
  obtain ⟨i, _, rfl⟩ := List.mem_map.1 hv
  exact can_fiK hp _
end
def fiOk (ws : List Wr) (p : V3) (st near : Nat) (rn : Int) : Bool := fineArgs ws p st near && decide (0 ≤ rn ∧ rn ≤ 63)
def fiV (ws : List Wr) (p : V3) (st near : Nat) (rn : Int) : List V3 := if fiOk ws p st near rn then fiL ws p st near (fiM ws p st near rn.toNat) else []
def fiS (ws : List Wr) (p : V3) (st near : Nat) (rn : Int) : Nat := if fiOk ws p st near rn then (fiK ws p st near (fiM ws p st near rn.toNat)).2.1 else 0
section
variable {ws : List Wr} {p : V3} {st near : Nat} {rn : Int}
theorem fi_1 (h : fineArgs ws p st near = false) : fiOk ws p st near rn = false := by unfold fiOk; rw [h]; rfl
theorem fi_2 (h : decide (0 ≤ rn ∧ rn ≤ 63) = false) : fiOk ws p st near rn = false := by unfold fiOk; rw [h, Bool.and_false]
theorem fi_yes (h1 : fineArgs ws p st near = true) (h4 : decide (0 ≤ rn ∧ rn ≤ 63) = true) : fiOk ws p st near rn = true := by unfold fiOk; rw [h1, h4]; rfl
theorem fiV_yes {k : Nat} (h : fiOk ws p st near rn = true) (hm : fiM ws p st near rn.toNat = k) : fiV ws p st near rn = fiL ws p st near k := by unfold fiV; rw [h, hm]; rfl
theorem fiS_yes {k : Nat} (h : fiOk ws p st near rn = true) (hm : fiM ws p st near rn.toNat = k) : fiS ws p st near rn = (fiK ws p st near k).2.1 := by unfold fiS; rw [h, hm]; rfl
theorem fiV_no (h : fiOk ws p st near rn = false) : fiV ws p st near rn = [] := by unfold fiV; rw [h]; rfl
theorem fiS_no (h : fiOk ws p st near rn = false) : fiS ws p st near rn = 0 := by unfold fiS; rw [h]; rfl
theorem fiV_length : (fiV ws p st near rn).length ≤ 64 := by
  unfold fiV; split
  · rename_i h
    unfold fiOk at h
    simp only [Bool.and_eq_true, decide_eq_true_eq] at h
    have := fiM_le (ws := ws) (p := p) (st := st) (near := near) (n := rn.toNat)
    rw [fiL_length]
    omega
  · exact Nat.zero_le _
theorem cans_fiV (hp : Can3 p) : Cans3 (fiV ws p st near rn) := by
  unfold fiV; split
  · exact cans_fiL hp
  · intro v hv; cases hv
end
end Go.Proofs.Ytppfkajfekafaaa
