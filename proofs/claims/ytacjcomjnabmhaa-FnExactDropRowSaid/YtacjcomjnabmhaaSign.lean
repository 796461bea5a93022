/- Signs that improve; a list of one and the same number. -/
import Derived.Test.YtacjcomjnabmhaaLim
import Derived.Test.YtacjcomjnabmhaaSlice
namespace Go.Proofs.Ytacjcomjnabmhaa
open Go.RowKit

def sgnT (s : List Nat) (j : Nat) : List Nat := s.set j (fneg .f32 (s.getD j 0))
def sgnN (sq : List Nat → Nat) (s : List Nat) (j : Nat) : List Nat := if fcmp .lss .f32 (sq (sgnT s j)) (sq s) then sgnT s j else s
def sgnJ (sq : List Nat → Nat) (s : List Nat) : Nat → List Nat
  | 0 => s
  | j + 1 => sgnN sq (sgnJ sq s j) j
def sgnR (sq : List Nat → Nat) (s : List Nat) : Nat → List Nat
  | 0 => s
  | r + 1 => sgnJ sq (sgnR sq s r) (sgnR sq s r).length
section
variable {sq : List Nat → Nat} {s : List Nat}
theorem sgnN_yes {j : Nat} (h : fcmp .lss .f32 (sq (sgnT s j)) (sq s) = true) : sgnN sq s j = sgnT s j := by unfold sgnN; rw [h]; rfl
theorem sgnN_no {j : Nat} (h : fcmp .lss .f32 (sq (sgnT s j)) (sq s) = false) : sgnN sq s j = s := by unfold sgnN; rw [h]; rfl
theorem sgnT_length {j : Nat} : (sgnT s j).length = s.length := by simp [sgnT]
theorem sgnN_facts (j : Nat) : (sgnN sq s j).length = s.length ∧ ∀ i, i ≠ j → (sgnN sq s j).getD i 0 = s.getD i 0 := by
  unfold sgnN
  split
  · refine ⟨sgnT_length, fun i h => ?_⟩
    simp only [sgnT, List.getD]
    rw [List.getElem?_set_ne (Ne.symm h)]
  · exact ⟨rfl, fun _ _ => rfl⟩
theorem sgnJ_facts : ∀ j, (sgnJ sq s j).length = s.length ∧ ∀ i, j ≤ i → (sgnJ sq s j).getD i 0 = s.getD i 0
  | 0 => ⟨rfl, fun _ _ => rfl⟩
  | j + 1 => by
    obtain ⟨h1, h2⟩ := sgnJ_facts j
    obtain ⟨g1, g2⟩ := sgnN_facts (sq := sq) (s := sgnJ sq s j) j
    exact ⟨g1.trans h1, fun i hi => (g2 i (by omega)).trans (h2 i (by omega))⟩
theorem sgnR_length : ∀ r, (sgnR sq s r).length = s.length
  | 0 => rfl
  | r + 1 => ((sgnJ_facts (sq := sq) (s := sgnR sq s r) _).1).trans (sgnR_length r)
theorem can_sgnT {j : Nat} (h : ∀ x ∈ s, Can .f32 x) : ∀ x ∈ sgnT s j, Can .f32 x := by
  refine can_set h (can_fneg ?_)
  by_cases hj : j < s.length
  · exact h _ (by simp [List.getD, hj])
  · have : s.getD j 0 = 0 := by simp [List.getD, List.getElem?_eq_none (Nat.le_of_not_lt hj)]
    rw [this]; exact can_f0
theorem can_sgnJ (h : ∀ x ∈ s, Can .f32 x) : ∀ j, ∀ x ∈ sgnJ sq s j, Can .f32 x
  | 0 => h
  | j + 1 => by
    have ih := can_sgnJ h j
    rw [sgnJ, sgnN]
    split
    · exact can_sgnT ih
    · exact ih
theorem can_sgnR (h : ∀ x ∈ s, Can .f32 x) : ∀ r, ∀ x ∈ sgnR sq s r, Can .f32 x
  | 0 => h
  | r + 1 => can_sgnJ (can_sgnR h r) _
end
/-- The list at the beginning. -/
def sgn0 (xss : List (List Nat)) (size : Nat) : List Nat := List.replicate (xss.getD 0 []).length (fneg .f32 size)
noncomputable def sgnOk (xss : List (List Nat)) (ws gs : List Nat) (size : Nat) (rn : Int) : Bool := validD xss ws gs && above size && decide (0 ≤ rn ∧ rn ≤ 20)
noncomputable def sgnD (xss : List (List Nat)) (ws gs : List Nat) (size : Nat) (rn : Int) : List Nat := if sgnOk xss ws gs size rn then sgnR (fun y => sqK xss ws gs y xss.length) (sgn0 xss size) rn.toNat else []
section
variable {xss : List (List Nat)} {ws gs : List Nat} {size : Nat} {rn : Int}
theorem sgnOk_yes (h : validD xss ws gs = true) (h2 : above size = true) (h3 : 0 ≤ rn ∧ rn ≤ 20) : sgnOk xss ws gs size rn = true := by unfold sgnOk; rw [h, h2, decide_eq_true h3]; rfl
theorem sgnOk_no1 (h : validD xss ws gs = false) : sgnOk xss ws gs size rn = false := by unfold sgnOk; rw [h]; rfl
theorem sgnOk_no2 (h : above size = false) : sgnOk xss ws gs size rn = false := by unfold sgnOk; rw [h, Bool.and_false]; rfl
theorem sgnOk_no3 (h : decide (0 ≤ rn ∧ rn ≤ 20) = false) : sgnOk xss ws gs size rn = false := by unfold sgnOk; rw [h, Bool.and_false]
theorem sgnD_yes (h : sgnOk xss ws gs size rn = true) : sgnD xss ws gs size rn = sgnR (fun y => sqK xss ws gs y xss.length) (sgn0 xss size) rn.toNat := by simp [sgnD, h]
theorem sgnD_no (h : sgnOk xss ws gs size rn = false) : sgnD xss ws gs size rn = [] := by simp [sgnD, h]
theorem sgn0_length : (sgn0 xss size).length = (xss.getD 0 []).length := by simp [sgn0]
theorem can_sgn0 (h : Can .f32 size) : ∀ x ∈ sgn0 xss size, Can .f32 x := by
  intro x hx
  have := List.eq_of_mem_replicate hx
  subst this
  exact can_fneg h
theorem can_sgnD (h : Can .f32 size) : ∀ x ∈ sgnD xss ws gs size rn, Can .f32 x := by
  unfold sgnD; split
  · exact can_sgnR (can_sgn0 h) _
  · intro x hx; cases hx
theorem sgnD_length : (sgnD xss ws gs size rn).length ≤ 8 := by
  unfold sgnD; split
  · rename_i h
    unfold sgnOk at h
    simp only [Bool.and_eq_true] at h
    have := valid_is h.1.1
    rw [sgnR_length, sgn0_length]
    exact this.2.2.2.2.2.2.2
  · simp
theorem fits_sgn {y : List Nat} (h : validD xss ws gs = true) (hl : y.length = (xss.getD 0 []).length) : fitsD xss ws gs y = true := by
  unfold fitsD
  rw [h, hl]
  simp
end

theorem mul8 {m : Nat} (h : m ≤ 8) : IntKind.u64.wrap ((((m : Int) % 2 ^ IntKind.u64.bits).toNat &&& ((4294967295 : Int) % 2 ^ IntKind.u64.bits).toNat : Nat) : Int) = m ∧ Int.fdiv (m : Int) (2 ^ (min 32 IntKind.u64.bits)) = 0 ∧ IntKind.u64.wrap (1 * (m : Int)) = m ∧ IntKind.u64.wrap (0 * (m : Int)) = 0 := by
  have : m = 0 ∨ m = 1 ∨ m = 2 ∨ m = 3 ∨ m = 4 ∨ m = 5 ∨ m = 6 ∨ m = 7 ∨ m = 8 := by omega
  rcases this with rfl | rfl | rfl | rfl | rfl | rfl | rfl | rfl | rfl <;> decide
/-- A list that is filled by doubling. -/
def repK (v m n : Nat) : List Nat := List.replicate n v ++ List.replicate (m - n) 0
theorem repK_length {v m n : Nat} (h : n ≤ m) : (repK v m n).length = m := by simp [repK]; omega
theorem repK_zero {v m : Nat} : repK v m 0 = List.replicate m 0 := by simp [repK]
theorem repK_all {v m : Nat} : repK v m m = List.replicate m v := by simp [repK]
theorem repK_get {v m n i : Nat} (h : n ≤ m) : (repK v m n)[i]? = if i < n then some v else if i < m then some 0 else none := by
  unfold repK
  by_cases h1 : i < n
  · rw [if_pos h1, List.getElem?_append_left (by simpa using h1), List.getElem?_replicate, if_pos h1]
  · rw [if_neg h1, List.getElem?_append_right (by simp; omega), List.getElem?_replicate]
    simp only [List.length_replicate]
    by_cases h2 : i < m
    · rw [if_pos h2, if_pos (by omega)]
    · rw [if_neg h2, if_neg (by omega)]
theorem setAt_get (us : List Value) : ∀ (cs : List Value) (k i : Nat), k + cs.length ≤ us.length → (setAt us k cs)[i]? = if k ≤ i ∧ i < k + cs.length then cs[i - k]? else us[i]?
  | [], k, i, _ => by rw [setAt, if_neg (by simp only [List.length_nil]; omega)]
  | c :: cs, k, i, h => by
    simp only [List.length_cons] at h
    rw [setAt, setAt_get (us.set k c) cs (k + 1) i (by simp only [List.length_set]; omega)]
    simp only [List.length_cons]
    by_cases h1 : k + 1 ≤ i ∧ i < k + 1 + cs.length
    · rw [if_pos h1, if_pos (by omega), show i - k = (i - (k + 1)) + 1 by omega, List.getElem?_cons_succ]
    · rw [if_neg h1]
      by_cases h2 : i = k
      · subst h2
        rw [if_pos (by omega), Nat.sub_self, List.getElem?_set_self (by omega)]
        rfl
      · rw [if_neg (by omega), List.getElem?_set_ne (Ne.symm h2)]
theorem fl_get? (xs : List Nat) (i : Nat) : (fl xs)[i]? = (xs[i]?).map (Value.float .f32) := by simp [fl]
theorem repK_set {v m n q : Nat} (h : n + q ≤ m) : setAt (fl (repK v m n)) n (fl (List.replicate q v)) = fl (repK v m (n + q)) := by
  apply List.ext_getElem?
  intro i
  rw [setAt_get _ _ _ _ (by rw [fl_length, fl_length, repK_length (by omega), List.length_replicate]; exact h), fl_length, List.length_replicate, fl_get?, fl_get?, fl_get?, repK_get (by omega), repK_get h]
  by_cases h1 : n ≤ i ∧ i < n + q
  · rw [if_pos h1, List.getElem?_replicate, if_pos (by omega), if_pos h1.2]
  · rw [if_neg h1]
    by_cases h2 : i < n
    · rw [if_pos h2, if_pos (show i < n + q by omega)]
    · rw [if_neg h2, if_neg (show ¬ i < n + q by omega)]
theorem repK_first {v m : Nat} (h : 1 ≤ m) : setAt (cycle [Value.float .f32 0] m) 0 (fl [v]) = fl (repK v m 1) := by
  have h2 := repK_set (v := v) (m := m) (n := 0) (q := 1) (by omega)
  rw [repK_zero, ← fl_zeros] at h2
  exact h2
theorem repK_part {v m n q : Nat} (h : n ≤ m) (hq : q ≤ n) : (fl (repK v m n)).take q = fl (List.replicate q v) := by
  apply List.ext_getElem?
  intro i
  rw [List.getElem?_take, fl_get?, fl_get?, repK_get h, List.getElem?_replicate]
  by_cases h1 : i < q
  · rw [if_pos h1, if_pos (by omega), if_pos h1]
  · rw [if_neg h1, if_neg h1]; rfl
end Go.Proofs.Ytacjcomjnabmhaa
