/- What a design misses: plain words. -/
import Derived.Test.YtacjcomjnabmhaaBits
namespace Go.Proofs.Ytacjcomjnabmhaa
def dotK (xs ys : List Nat) : Nat → Nat
  | 0 => 0
  | k + 1 => fop .add .f32 (dotK xs ys k) (fop .mul .f32 (xs.getD k 0) (ys.getD k 0))
def missAt (xss : List (List Nat)) (ws x : List Nat) (i : Nat) : Nat := fop .sub .f32 (ws.getD i 0) (dotK (xss.getD i []) x x.length)
def missL (xss : List (List Nat)) (ws x : List Nat) (k : Nat) : List Nat := (List.range k).map (missAt xss ws x)
theorem missL_length (xss : List (List Nat)) (ws x : List Nat) (k : Nat) : (missL xss ws x k).length = k := by simp [missL]
theorem missL_succ (xss : List (List Nat)) (ws x : List Nat) (k : Nat) : missL xss ws x k ++ [missAt xss ws x k] = missL xss ws x (k + 1) := by simp [missL, List.range_succ]
theorem missL_get (xss : List (List Nat)) (ws x : List Nat) {k m : Nat} (h : k < m) : (missL xss ws x m).getD k 0 = missAt xss ws x k := getD_range m _ h
theorem can_missL (xss : List (List Nat)) (ws x : List Nat) (k : Nat) : ∀ y ∈ missL xss ws x k, Can .f32 y := by
  intro y hy
  obtain ⟨i, _, rfl⟩ := List.mem_map.1 hy
  exact can_fop _ _ _ _
def sqK (xss : List (List Nat)) (ws gs x : List Nat) : Nat → Nat
  | 0 => 0
  | k + 1 => fop .add .f32 (sqK xss ws gs x k) (fop .mul .f32 (fop .mul .f32 (gs.getD k 0) (missAt xss ws x k)) (missAt xss ws x k))
noncomputable def fitsD (xss : List (List Nat)) (ws gs x : List Nat) : Bool := validD xss ws gs && decide (x.length = (xss.getD 0 []).length)
noncomputable def squareD (xss : List (List Nat)) (ws gs x : List Nat) : Nat := if fitsD xss ws gs x then sqK xss ws gs x xss.length else 0
theorem fits_is {xss : List (List Nat)} {ws gs x : List Nat} (h : fitsD xss ws gs x = true) : ValidP xss ws gs ∧ x.length = (xss.getD 0 []).length ∧ ∀ i, i < xss.length → (xss.getD i []).length = x.length := by
  unfold fitsD at h
  simp only [Bool.and_eq_true, decide_eq_true_eq] at h
  have hv := valid_is h.1
  exact ⟨hv, h.2, fun i hi => by rw [h.2]; exact (hv.2.2.2.2.2.1 i hi).1⟩
theorem squareD_yes {xss : List (List Nat)} {ws gs x : List Nat} (h : fitsD xss ws gs x = true) : squareD xss ws gs x = sqK xss ws gs x xss.length := by simp [squareD, h]
theorem squareD_no {xss : List (List Nat)} {ws gs x : List Nat} (h : fitsD xss ws gs x = false) : squareD xss ws gs x = 0 := by simp [squareD, h]
end Go.Proofs.Ytacjcomjnabmhaa
