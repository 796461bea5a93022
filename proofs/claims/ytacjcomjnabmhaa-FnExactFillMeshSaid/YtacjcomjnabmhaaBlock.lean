/- The sums of a block of rows: plain words. -/
import Derived.Test.YtacjcomjnabmhaaIn
import Derived.Test.YtacjcomjnabmhaaRidge
namespace Go.Proofs.Ytacjcomjnabmhaa
open Go.RowKit

theorem idx_inj {n j k j' k' : Nat} (hk : k < n) (hk' : k' < n) (h : j' * n + k' = j * n + k) : j' = j ∧ k' = k := by
  have h1 : (j' * n + k') / n = j' := by
    rw [Nat.add_comm, Nat.add_mul_div_right _ _ (by omega), Nat.div_eq_of_lt hk', Nat.zero_add]
  have h2 : (j * n + k) / n = j := by
    rw [Nat.add_comm, Nat.add_mul_div_right _ _ (by omega), Nat.div_eq_of_lt hk, Nat.zero_add]
  rw [h, h2] at h1
  subst h1
  exact ⟨rfl, by omega⟩
theorem ext_square {n : Nat} {xs : List Nat} {f : Nat → Nat → Nat} (hl : xs.length = n * n) (h : ∀ j k, j < n → k < n → xs.getD (j * n + k) 0 = f j k) : xs = (List.range (n * n)).map fun t => f (t / n) (t % n) := by
  refine ext_getD (by simp [hl]) fun i hi => ?_
  rw [hl] at hi
  rw [getD_range _ _ hi]
  have hn : 0 < n := by
    rcases Nat.eq_zero_or_pos n with h0 | h0
    · subst h0; simp at hi
    · exact h0
  have := h (i / n) (i % n) ((Nat.div_lt_iff_lt_mul hn).2 hi) (Nat.mod_lt _ hn)
  rw [← this, Nat.mul_comm, Nat.div_add_mod]

def rowK (xss : List (List Nat)) (i j : Nat) : Nat := (xss.getD i []).getD j 0
def blkA (xss : List (List Nat)) (gs : List Nat) (fr j k : Nat) : Nat → Nat
  | 0 => 0
  | i + 1 => fop .add .f32 (blkA xss gs fr j k i) (fop .mul .f32 (fop .mul .f32 (gs.getD (fr + i) 0) ((xss.getD (fr + i) []).getD j 0)) ((xss.getD (fr + i) []).getD k 0))
def blkB (xss : List (List Nat)) (ws gs : List Nat) (fr j : Nat) : Nat → Nat
  | 0 => 0
  | i + 1 => fop .add .f32 (blkB xss ws gs fr j i) (fop .mul .f32 (fop .mul .f32 (gs.getD (fr + i) 0) ((xss.getD (fr + i) []).getD j 0)) (ws.getD (fr + i) 0))
def blockA (xss : List (List Nat)) (gs : List Nat) (fr cnt n : Nat) : List Nat := (List.range (n * n)).map fun t => blkA xss gs fr (t / n) (t % n) cnt
def blockB (xss : List (List Nat)) (ws gs : List Nat) (fr cnt n : Nat) : List Nat := (List.range n).map fun j => blkB xss ws gs fr j cnt
theorem blockA_length (xss : List (List Nat)) (gs : List Nat) (fr cnt n : Nat) : (blockA xss gs fr cnt n).length = n * n := by simp [blockA]
theorem blockB_length (xss : List (List Nat)) (ws gs : List Nat) (fr cnt n : Nat) : (blockB xss ws gs fr cnt n).length = n := by simp [blockB]
theorem can_blkA (xss : List (List Nat)) (gs : List Nat) (fr j k : Nat) : ∀ i, Can .f32 (blkA xss gs fr j k i)
  | 0 => can_f0
  | _ + 1 => can_fop _ _ _ _
theorem can_blkB (xss : List (List Nat)) (ws gs : List Nat) (fr j : Nat) : ∀ i, Can .f32 (blkB xss ws gs fr j i)
  | 0 => can_f0
  | _ + 1 => can_fop _ _ _ _
theorem can_blockA (xss : List (List Nat)) (gs : List Nat) (fr cnt n : Nat) : ∀ y ∈ blockA xss gs fr cnt n, Can .f32 y := by
  intro y hy
  obtain ⟨t, _, rfl⟩ := List.mem_map.1 hy
  exact can_blkA _ _ _ _ _ _
theorem can_blockB (xss : List (List Nat)) (ws gs : List Nat) (fr cnt n : Nat) : ∀ y ∈ blockB xss ws gs fr cnt n, Can .f32 y := by
  intro y hy
  obtain ⟨t, _, rfl⟩ := List.mem_map.1 hy
  exact can_blkB _ _ _ _ _ _
theorem up_or {xss : List (List Nat)} {gs A : List Nat} {fr n i j : Nat} (h : ∀ j1 k1, j1 < n → k1 < n → A.getD (j1 * n + k1) 0 = blkA xss gs fr j1 k1 (if j1 < j then i + 1 else i)) :
    ∀ j1 k1, j1 < n → k1 < n → A.getD (j1 * n + k1) 0 = blkA xss gs fr j1 k1 (if j1 < j ∨ (j1 = j ∧ k1 < 0) then i + 1 else i) := by
  intro j1 k1 h1 h2
  rw [h j1 k1 h1 h2]
  congr 1
  by_cases hc : j1 < j
  · rw [if_pos hc, if_pos (by omega)]
  · rw [if_neg hc, if_neg (by omega)]
theorem or_up {xss : List (List Nat)} {gs A : List Nat} {fr n i j : Nat} (h : ∀ j1 k1, j1 < n → k1 < n → A.getD (j1 * n + k1) 0 = blkA xss gs fr j1 k1 (if j1 < j ∨ (j1 = j ∧ k1 < n) then i + 1 else i)) :
    ∀ j1 k1, j1 < n → k1 < n → A.getD (j1 * n + k1) 0 = blkA xss gs fr j1 k1 (if j1 < j + 1 then i + 1 else i) := by
  intro j1 k1 h1 h2
  rw [h j1 k1 h1 h2]
  congr 1
  by_cases hc : j1 < j + 1
  · rw [if_pos hc, if_pos (by omega)]
  · rw [if_neg hc, if_neg (by omega)]
/-- A round of the innermost loop: one number more. -/
theorem blkA_step {xss : List (List Nat)} {gs A : List Nat} {fr n i j k : Nat} (hl : A.length = n * n) (hj : j < n) (hk : k < n)
    (h : ∀ j' k', j' < n → k' < n → A.getD (j' * n + k') 0 = blkA xss gs fr j' k' (if j' < j ∨ (j' = j ∧ k' < k) then i + 1 else i)) :
    ∀ j' k', j' < n → k' < n → (A.set (j * n + k) (fop .add .f32 (A.getD (j * n + k) 0) (fop .mul .f32 (fop .mul .f32 (gs.getD (fr + i) 0) ((xss.getD (fr + i) []).getD j 0)) ((xss.getD (fr + i) []).getD k 0)))).getD (j' * n + k') 0 =
      blkA xss gs fr j' k' (if j' < j ∨ (j' = j ∧ k' < k + 1) then i + 1 else i) := by
  intro j' k' hj' hk'
  rw [gset (by rw [hl]; exact idx_lt hj hk)]
  split
  · rename_i he
    obtain ⟨rfl, rfl⟩ := idx_inj hk hk' he
    rw [h j' k' hj' hk', if_neg (by omega), if_pos (by omega)]
    rfl
  · rename_i he
    have hne : ¬ (j' = j ∧ k' = k) := by rintro ⟨rfl, rfl⟩; exact he rfl
    rw [h j' k' hj' hk']
    congr 1
    by_cases hc : j' < j ∨ (j' = j ∧ k' < k)
    · rw [if_pos hc, if_pos (by omega)]
    · rw [if_neg hc, if_neg (by omega)]
theorem blkB_step {xss : List (List Nat)} {ws gs B : List Nat} {fr n i j : Nat} (hl : B.length = n) (hj : j < n)
    (h : ∀ j', j' < n → B.getD j' 0 = blkB xss ws gs fr j' (if j' < j then i + 1 else i)) :
    ∀ j', j' < n → (B.set j (fop .add .f32 (B.getD j 0) (fop .mul .f32 (fop .mul .f32 (gs.getD (fr + i) 0) ((xss.getD (fr + i) []).getD j 0)) (ws.getD (fr + i) 0)))).getD j' 0 = blkB xss ws gs fr j' (if j' < j + 1 then i + 1 else i) := by
  intro j' hj'
  rw [gset (by omega)]
  split
  · rename_i he
    subst he
    rw [h j' hj', if_neg (by omega), if_pos (by omega)]
    rfl
  · rw [h j' hj']
    congr 1
    by_cases hc : j' < j
    · rw [if_pos hc, if_pos (by omega)]
    · rw [if_neg hc, if_neg (by omega)]
theorem replicate_getD (m i : Nat) : (List.replicate m 0).getD i 0 = 0 := by
  rw [List.getD]
  rcases Nat.lt_or_ge i m with h | h
  · simp [h]
  · simp [h]

def blocksN (m : Nat) : Nat := (m + 7) / 8
theorem blocksN_le (m : Nat) : blocksN m ≤ m + 7 := by unfold blocksN; omega
noncomputable def blockOk (xss : List (List Nat)) (ws gs : List Nat) (b : Int) : Bool := validD xss ws gs && decide (0 ≤ b ∧ b < blocksN xss.length)
noncomputable def blockAD (xss : List (List Nat)) (ws gs : List Nat) (b : Int) : List Nat := if blockOk xss ws gs b then blockA xss gs (b.toNat * 8) (min 8 (xss.length - b.toNat * 8)) (xss.getD 0 []).length else []
noncomputable def blockBD (xss : List (List Nat)) (ws gs : List Nat) (b : Int) : List Nat := if blockOk xss ws gs b then blockB xss ws gs (b.toNat * 8) (min 8 (xss.length - b.toNat * 8)) (xss.getD 0 []).length else []
theorem block_no {xss : List (List Nat)} {ws gs : List Nat} {b : Int} (h : validD xss ws gs = false) : blockOk xss ws gs b = false := by simp [blockOk, h]
theorem block_no2 {xss : List (List Nat)} {ws gs : List Nat} {b : Int} (h : decide (0 ≤ b ∧ b ≤ (blocksN xss.length : Int) - 1) = false) : blockOk xss ws gs b = false := by
  have h2 := of_decide_eq_false h
  unfold blockOk
  rw [decide_eq_false (by omega), Bool.and_false]
theorem block_yes {xss : List (List Nat)} {ws gs : List Nat} {b : Int} (h : validD xss ws gs = true) (h2 : decide (0 ≤ b ∧ b ≤ (blocksN xss.length : Int) - 1) = true) : blockOk xss ws gs b = true := by
  have h3 := of_decide_eq_true h2
  unfold blockOk
  rw [h, decide_eq_true (by omega), Bool.true_and]
theorem block_is {xss : List (List Nat)} {ws gs : List Nat} {b : Int} (h : blockOk xss ws gs b = true) : ValidP xss ws gs ∧ 0 ≤ b ∧ b * 8 ≤ xss.length ∧ b.toNat * 8 ≤ xss.length := by
  unfold blockOk at h
  rw [Bool.and_eq_true, decide_eq_true_eq] at h
  have : blocksN xss.length * 8 ≤ xss.length + 7 := by unfold blocksN; omega
  exact ⟨valid_is h.1, h.2.1, by omega, by omega⟩
theorem blockAD_yes {xss : List (List Nat)} {ws gs : List Nat} {b : Int} (h : blockOk xss ws gs b = true) : blockAD xss ws gs b = blockA xss gs (b.toNat * 8) (min 8 (xss.length - b.toNat * 8)) (xss.getD 0 []).length := by simp [blockAD, h]
theorem blockBD_yes {xss : List (List Nat)} {ws gs : List Nat} {b : Int} (h : blockOk xss ws gs b = true) : blockBD xss ws gs b = blockB xss ws gs (b.toNat * 8) (min 8 (xss.length - b.toNat * 8)) (xss.getD 0 []).length := by simp [blockBD, h]
theorem blockAD_no {xss : List (List Nat)} {ws gs : List Nat} {b : Int} (h : blockOk xss ws gs b = false) : blockAD xss ws gs b = [] := by simp [blockAD, h]
theorem blockBD_no {xss : List (List Nat)} {ws gs : List Nat} {b : Int} (h : blockOk xss ws gs b = false) : blockBD xss ws gs b = [] := by simp [blockBD, h]
theorem can_blockAD (xss : List (List Nat)) (ws gs : List Nat) (b : Int) : ∀ y ∈ blockAD xss ws gs b, Can .f32 y := by
  unfold blockAD; split
  · exact can_blockA _ _ _ _ _
  · intro y hy; cases hy
theorem can_blockBD (xss : List (List Nat)) (ws gs : List Nat) (b : Int) : ∀ y ∈ blockBD xss ws gs b, Can .f32 y := by
  unfold blockBD; split
  · exact can_blockB _ _ _ _ _ _
  · intro y hy; cases hy
theorem length_blockAD (xss : List (List Nat)) (ws gs : List Nat) (b : Int) : (blockAD xss ws gs b).length ≤ 64 := by
  unfold blockAD; split
  · rename_i h
    unfold blockOk at h
    have hv := valid_is (Bool.and_eq_true_iff.1 h).1
    rw [blockA_length]
    exact Nat.mul_le_mul hv.2.2.2.2.2.2.2 hv.2.2.2.2.2.2.2
  · simp
theorem length_blockBD (xss : List (List Nat)) (ws gs : List Nat) (b : Int) : (blockBD xss ws gs b).length ≤ 8 := by
  unfold blockBD; split
  · rename_i h
    unfold blockOk at h
    have hv := valid_is (Bool.and_eq_true_iff.1 h).1
    rw [blockB_length]
    exact hv.2.2.2.2.2.2.2
  · simp
end Go.Proofs.Ytacjcomjnabmhaa
