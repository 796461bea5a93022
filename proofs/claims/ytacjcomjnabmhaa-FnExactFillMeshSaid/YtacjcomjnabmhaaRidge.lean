/- The cost with a ridge: plain words. -/
import Derived.Test.YtacjcomjnabmhaaSquare
namespace Go.Proofs.Ytacjcomjnabmhaa
noncomputable def ridgeOk (xss : List (List Nat)) (ws gs x : List Nat) (r : Nat) : Bool := fitsD xss ws gs x && least r
noncomputable def ridgeD (xss : List (List Nat)) (ws gs x : List Nat) (r : Nat) : Nat := if ridgeOk xss ws gs x r then fop .add .f32 (sqK xss ws gs x xss.length) (fop .mul .f32 r (dotK x x x.length)) else 0
theorem ridgeD_yes {xss : List (List Nat)} {ws gs x : List Nat} {r : Nat} (h : ridgeOk xss ws gs x r = true) : ridgeD xss ws gs x r = fop .add .f32 (sqK xss ws gs x xss.length) (fop .mul .f32 r (dotK x x x.length)) := by simp [ridgeD, h]
theorem ridgeD_no {xss : List (List Nat)} {ws gs x : List Nat} {r : Nat} (h : ridgeOk xss ws gs x r = false) : ridgeD xss ws gs x r = 0 := by simp [ridgeD, h]
noncomputable def missesD (xss : List (List Nat)) (ws gs x : List Nat) : List Nat := if fitsD xss ws gs x then missL xss ws x xss.length else []
theorem missesD_yes {xss : List (List Nat)} {ws gs x : List Nat} (h : fitsD xss ws gs x = true) : missesD xss ws gs x = missL xss ws x xss.length := by simp [missesD, h]
theorem missesD_no {xss : List (List Nat)} {ws gs x : List Nat} (h : fitsD xss ws gs x = false) : missesD xss ws gs x = [] := by simp [missesD, h]
theorem can_missesD (xss : List (List Nat)) (ws gs x : List Nat) : ∀ y ∈ missesD xss ws gs x, Can .f32 y := by
  unfold missesD
  split
  · exact can_missL _ _ _ _
  · intro y hy; cases hy
theorem length_missesD (xss : List (List Nat)) (ws gs x : List Nat) : (missesD xss ws gs x).length ≤ 48 := by
  unfold missesD
  split
  · rename_i h
    have := (fits_is h).1.2.1
    rw [missL_length]; exact this
  · simp
end Go.Proofs.Ytacjcomjnabmhaa
