/- The plain law of the Cholesky numbers: no program in sight. -/
import Derived.Test.YtacjcomjnabmhaaRoot
import Derived.Test.YtacjcomjnabmhaaSolve
namespace Go.Proofs.Ytacjcomjnabmhaa

def cS (a l : List Nat) (n j : Nat) : Nat → Nat
  | 0 => a.getD (j * n + j) 0
  | k + 1 => fop .sub .f32 (cS a l n j k) (fop .mul .f32 (l.getD (j * n + k) 0) (l.getD (j * n + k) 0))
def cX (a l : List Nat) (n i j : Nat) : Nat → Nat
  | 0 => a.getD (i * n + j) 0
  | k + 1 => fop .sub .f32 (cX a l n i j k) (fop .mul .f32 (l.getD (i * n + k) 0) (l.getD (j * n + k) 0))
def cCol (a : List Nat) (n j : Nat) (l0 : List Nat) : Nat → List Nat
  | 0 => l0
  | c + 1 => (cCol a n j l0 c).set ((j + 1 + c) * n + j) (fop .quo .f32 (cX a (cCol a n j l0 c) n (j + 1 + c) j j) ((cCol a n j l0 c).getD (j * n + j) 0))
def chol (a : List Nat) (n : Nat) : Nat → List Nat
  | 0 => List.replicate (n * n) 0
  | j + 1 => cCol a n j ((chol a n j).set (j * n + j) (sqrt32 (cS a (chol a n j) n j j))) (n - (j + 1))
def cholOk (a : List Nat) (n : Nat) : Bool := decide (n ≠ 0) && (List.range n).all (fun j => fcmp .gtr .f32 (cS a (chol a n j) n j j) 0)
def cholOf (a : List Nat) (n : Nat) : List Nat := if cholOk a n then chol a n n else []
theorem cCol_length (a : List Nat) (n j : Nat) (l0 : List Nat) : ∀ c, (cCol a n j l0 c).length = l0.length
  | 0 => rfl
  | c + 1 => by rw [cCol, List.length_set, cCol_length a n j l0 c]
theorem chol_length (a : List Nat) (n : Nat) : ∀ j, (chol a n j).length = n * n
  | 0 => by simp [chol]
  | j + 1 => by rw [chol, cCol_length, List.length_set, chol_length a n j]
theorem can_set {l : List Nat} {i x : Nat} (h : ∀ y ∈ l, Can .f32 y) (hx : Can .f32 x) : ∀ y ∈ l.set i x, Can .f32 y := by
  intro y hy
  rcases List.mem_or_eq_of_mem_set hy with h1 | h1
  · exact h y h1
  · rw [h1]; exact hx
theorem can_cCol {a : List Nat} {n j : Nat} {l0 : List Nat} (h : ∀ y ∈ l0, Can .f32 y) : ∀ c, ∀ y ∈ cCol a n j l0 c, Can .f32 y
  | 0 => h
  | c + 1 => can_set (can_cCol h c) (can_fop _ _ _ _)
theorem can_zero : Can .f32 0 := by unfold Can; decide
theorem can_zeros (m : Nat) : ∀ y ∈ List.replicate m 0, Can .f32 y := by
  intro y hy
  rw [(List.mem_replicate.1 hy).2]; exact can_zero
theorem can_chol (a : List Nat) (n : Nat) : ∀ j, ∀ y ∈ chol a n j, Can .f32 y
  | 0 => can_zeros _
  | j + 1 => can_cCol (can_set (can_chol a n j) (can_sqrt32 _)) _
theorem can_cholOf (a : List Nat) (n : Nat) : ∀ y ∈ cholOf a n, Can .f32 y := by
  unfold cholOf
  split
  · exact can_chol a n n
  · intro y hy; cases hy
theorem length_cholOf {a : List Nat} {n : Nat} (h : n ≤ 8) : (cholOf a n).length ≤ 64 := by
  unfold cholOf
  split
  · rw [chol_length]; exact Nat.mul_le_mul h h
  · simp
theorem chol_no0 {a : List Nat} {n : Nat} (h : n = 0) : cholOk a n = false := by simp [cholOk, h]
theorem chol_no1 {a : List Nat} {n j : Nat} (hj : j < n) (h : fcmp .gtr .f32 (cS a (chol a n j) n j j) 0 = false) : cholOk a n = false := by
  have : (List.range n).all (fun j => fcmp .gtr .f32 (cS a (chol a n j) n j j) 0) = false := by
    rw [Bool.eq_false_iff]
    intro ha
    have := List.all_eq_true.1 ha j (by simpa using hj)
    rw [h] at this
    cases this
  simp only [cholOk, this, Bool.and_false]
theorem chol_yes {a : List Nat} {n : Nat} (h0 : n ≠ 0) (h2 : ∀ j, j < n → fcmp .gtr .f32 (cS a (chol a n j) n j j) 0 = true) : cholOk a n = true := by
  have : (List.range n).all (fun j => fcmp .gtr .f32 (cS a (chol a n j) n j j) 0) = true := by
    rw [List.all_eq_true]
    intro j hj
    exact h2 j (by simpa using hj)
  simp only [cholOk, this, h0, ne_eq, not_false_eq_true, decide_true, Bool.and_true]
theorem cholOf_no {a : List Nat} {n : Nat} (h : cholOk a n = false) : cholOf a n = [] := by simp [cholOf, h]
theorem cholOf_yes {a : List Nat} {n : Nat} (h : cholOk a n = true) : cholOf a n = chol a n n := by simp [cholOf, h]
end Go.Proofs.Ytacjcomjnabmhaa
