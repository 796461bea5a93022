/- The plain law of the equations that are solved with Cholesky numbers: no program in sight. -/
import Derived.Test.YtacjcomjnabmhaaNar
namespace Go.Proofs.Ytacjcomjnabmhaa

/-! ### the side of a square -/
def isSide (m n : Nat) : Bool := decide (1 ≤ n) && decide (n * n = m)
def side (m : Nat) : Nat := ((List.range 9).find? (isSide m)).getD 0
theorem side_le (m : Nat) : side m ≤ 8 := by
  unfold side
  cases h : (List.range 9).find? (isSide m) with
  | none => simp
  | some n => have := List.mem_of_find?_eq_some h; simp at this ⊢; omega
theorem side_mul {m : Nat} (h : side m ≠ 0) : side m * side m = m := by
  unfold side at *
  cases e : (List.range 9).find? (isSide m) with
  | none => rw [e] at h; simp at h
  | some n =>
    have := List.find?_some e
    simp only [isSide, Bool.and_eq_true, decide_eq_true_eq] at this
    simpa using this.2
theorem side_of {m k : Nat} (h1 : 1 ≤ k) (h2 : k ≤ 8) (h : k * k = m) : side m = k := by
  have hs : side m ≠ 0 := by
    unfold side
    cases e : (List.range 9).find? (isSide m) with
    | none =>
      have := List.find?_eq_none.1 e k (by simp; omega)
      simp [isSide, h1, h] at this
    | some n =>
      have := List.find?_some e
      simp only [isSide, Bool.and_eq_true, decide_eq_true_eq] at this
      simp only [Option.getD_some]
      omega
  have := side_mul hs
  rw [← h] at this ⊢
  rw [h]
  exact Nat.mul_self_inj.1 (by rw [h] at this; rw [this, h])
theorem side_none {m : Nat} (h : ∀ j, 1 ≤ j → j < 9 → j * j ≠ m) : side m = 0 := by
  apply Classical.byContradiction
  intro hs
  have h2 := side_le m
  exact h (side m) (by omega) (by omega) (side_mul hs)

/-! ### forward and backward -/
def fwdS (l : List Nat) (n j : Nat) (y : Nat → Nat) (s : Nat) : Nat → Nat
  | 0 => s
  | k + 1 => fop .sub .f32 (fwdS l n j y s k) (fop .mul .f32 (l.getD (j * n + k) 0) (y k))
def fwdF (l : List Nat) (n : Nat) (b : List Nat) : Nat → Nat → Nat
  | 0, t => b.getD t 0
  | j + 1, t => if t = j then fop .quo .f32 (fwdS l n j (fwdF l n b j) (b.getD j 0) j) (l.getD (j * n + j) 0) else fwdF l n b j t
def bwdS (l : List Nat) (n j : Nat) (x : Nat → Nat) (s : Nat) : Nat → Nat
  | 0 => s
  | k + 1 => fop .sub .f32 (bwdS l n j x s k) (fop .mul .f32 (l.getD ((j + 1 + k) * n + j) 0) (x (j + 1 + k)))
def bwdF (l : List Nat) (n : Nat) (y : Nat → Nat) : Nat → Nat → Nat
  | 0, t => y t
  | i + 1, t => if t = n - 1 - i then fop .quo .f32 (bwdS l n (n - 1 - i) (bwdF l n y i) (y (n - 1 - i)) i) (l.getD ((n - 1 - i) * n + (n - 1 - i)) 0) else bwdF l n y i t
theorem fwdF_ge (l : List Nat) (n : Nat) (b : List Nat) : ∀ (j t : Nat), j ≤ t → fwdF l n b j t = b.getD t 0
  | 0, _, _ => rfl
  | j + 1, t, h => by rw [fwdF, if_neg (by omega), fwdF_ge l n b j t (by omega)]
theorem fwdF_lt (l : List Nat) (n : Nat) (b : List Nat) : ∀ (j i t : Nat), t < j → j ≤ i → fwdF l n b i t = fwdF l n b j t
  | j, 0, t, h, hi => by omega
  | j, i + 1, t, h, hi => by
    by_cases e : j = i + 1
    · rw [e]
    · rw [fwdF, if_neg (by omega), fwdF_lt l n b j i t h (by omega)]
theorem bwdF_lt (l : List Nat) (n : Nat) (y : Nat → Nat) : ∀ (i t : Nat), t + i < n → bwdF l n y i t = y t
  | 0, _, _ => rfl
  | i + 1, t, h => by rw [bwdF, if_neg (by omega), bwdF_lt l n y i t (by omega)]
theorem fwdS_congr {l : List Nat} {n j : Nat} {y z : Nat → Nat} {s : Nat} : ∀ {k : Nat}, (∀ t, t < k → y t = z t) → fwdS l n j y s k = fwdS l n j z s k
  | 0, _ => rfl
  | k + 1, h => by rw [fwdS, fwdS, fwdS_congr (fun t ht => h t (by omega)), h k (by omega)]
theorem bwdS_congr {l : List Nat} {n j : Nat} {y z : Nat → Nat} {s : Nat} : ∀ {k : Nat}, (∀ t, t < k → y (j + 1 + t) = z (j + 1 + t)) → bwdS l n j y s k = bwdS l n j z s k
  | 0, _ => rfl
  | k + 1, h => by rw [bwdS, bwdS, bwdS_congr (fun t ht => h t (by omega)), h k (by omega)]
/-- a round of the backward part, by the number that is done last -/
theorem bwdF_succ (l : List Nat) (n : Nat) (y : Nat → Nat) {j : Nat} (hj : j < n) (t : Nat) : bwdF l n y (n - j) t = if t = j then fop .quo .f32 (bwdS l n j (bwdF l n y (n - (j + 1))) (y j) (n - (j + 1))) (l.getD (j * n + j) 0) else bwdF l n y (n - (j + 1)) t := by
  obtain ⟨i, hi⟩ : ∃ i, n = j + 1 + i := ⟨n - (j + 1), by omega⟩
  have e1 : n - j = i + 1 := by omega
  have e2 : n - (j + 1) = i := by omega
  have e3 : n - 1 - i = j := by omega
  rw [e1, e2, bwdF, e3]

def solve (l b : List Nat) (n : Nat) : List Nat := (List.range n).map (bwdF l n (fwdF l n b n) n)
def solveOk (l b : List Nat) : Bool := decide (side l.length ≠ 0) && decide (b.length = side l.length) && (List.range (side l.length)).all (fun j => !fcmp .eql .f32 (l.getD (j * side l.length + j) 0) 0)
def solveOf (l b : List Nat) : List Nat := if solveOk l b then solve l b (side l.length) else []
theorem solve_length (l b : List Nat) (n : Nat) : (solve l b n).length = n := by simp [solve]
theorem length_solveOf (l b : List Nat) : (solveOf l b).length ≤ 8 := by
  unfold solveOf
  split
  · rw [solve_length]; exact side_le _
  · simp
theorem can_fwdF {l b : List Nat} {n : Nat} (hb : ∀ x ∈ b, Can .f32 x) : ∀ (j t : Nat), t < j ∨ t < b.length → Can .f32 (fwdF l n b j t)
  | 0, t, h => by
    have h : t < b.length := by omega
    exact hb _ (getD_mem h)
  | j + 1, t, h => by
    rw [fwdF]
    split
    · exact can_fop _ _ _ _
    · exact can_fwdF hb j t (by omega)
theorem can_bwdF {l : List Nat} {n : Nat} {y : Nat → Nat} : ∀ (i t : Nat), (t < n → Can .f32 (y t)) → t < n → Can .f32 (bwdF l n y i t)
  | 0, t, hy, h => hy h
  | i + 1, t, hy, h => by
    rw [bwdF]
    split
    · exact can_fop _ _ _ _
    · exact can_bwdF i t hy h
theorem can_solve {l b : List Nat} {n : Nat} (hb : ∀ x ∈ b, Can .f32 x) : ∀ y ∈ solve l b n, Can .f32 y := by
  intro y hy
  obtain ⟨t, ht, rfl⟩ := List.mem_map.1 hy
  simp at ht
  exact can_bwdF n t (fun h => can_fwdF hb n t (.inl h)) ht
theorem can_solveOf {l b : List Nat} (hb : ∀ x ∈ b, Can .f32 x) : ∀ y ∈ solveOf l b, Can .f32 y := by
  unfold solveOf
  split
  · exact can_solve hb
  · intro y hy; cases hy
theorem ok_no0 {l b : List Nat} (h : side l.length = 0) : solveOk l b = false := by simp [solveOk, h]
theorem ok_no1 {l b : List Nat} (h : b.length ≠ side l.length) : solveOk l b = false := by simp [solveOk, h]
theorem ok_no2 {l b : List Nat} {j : Nat} (hj : j < side l.length) (h : fcmp .eql .f32 (l.getD (j * side l.length + j) 0) 0 = true) : solveOk l b = false := by
  have : (List.range (side l.length)).all (fun j => !fcmp .eql .f32 (l.getD (j * side l.length + j) 0) 0) = false := by
    rw [Bool.eq_false_iff]
    intro ha
    have := List.all_eq_true.1 ha j (by simpa using hj)
    rw [h] at this
    cases this
  simp only [solveOk, this, Bool.and_false]
theorem ok_yes {l b : List Nat} (h0 : side l.length ≠ 0) (h1 : b.length = side l.length) (h2 : ∀ j, j < side l.length → fcmp .eql .f32 (l.getD (j * side l.length + j) 0) 0 = false) : solveOk l b = true := by
  have : (List.range (side l.length)).all (fun j => !fcmp .eql .f32 (l.getD (j * side l.length + j) 0) 0) = true := by
    rw [List.all_eq_true]
    intro j hj
    rw [h2 j (by simpa using hj)]; rfl
  simp only [solveOk, this, h1, h0, ne_eq, not_false_eq_true, decide_true, Bool.and_true]
theorem solveOf_no {l b : List Nat} (h : solveOk l b = false) : solveOf l b = [] := by simp [solveOf, h]
theorem solveOf_yes {l b : List Nat} (h : solveOk l b = true) : solveOf l b = solve l b (side l.length) := by simp [solveOf, h]
end Go.Proofs.Ytacjcomjnabmhaa
