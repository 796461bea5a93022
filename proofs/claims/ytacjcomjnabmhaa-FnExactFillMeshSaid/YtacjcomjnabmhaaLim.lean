/- Currents within limits, steps that improve: plain words. -/
import Derived.Test.YtacjcomjnabmhaaBlock
namespace Go.Proofs.Ytacjcomjnabmhaa
open Go.RowKit

theorem fits_congr {xss : List (List Nat)} {ws gs x y : List Nat} (h : y.length = x.length) : fitsD xss ws gs y = fitsD xss ws gs x := by unfold fitsD; rw [h]
theorem Hp.nil {w0 w : World} {O : List Ent} (h : Hp w0 O w) (t : TypeId) : Hp w0 (⟨none, [], 0, t⟩ :: O) w :=
  h.new (Below.refl _ _) (.inl ⟨rfl, rfl⟩)

/-! ### limits -/
def limS (xss : List (List Nat)) (gs : List Nat) (j : Nat) : Nat → Nat
  | 0 => 0
  | k + 1 => fop .add .f32 (limS xss gs j k) (fop .mul .f32 (fop .mul .f32 (gs.getD k 0) ((xss.getD k []).getD j 0)) ((xss.getD k []).getD j 0))
def limT (xss : List (List Nat)) (ws gs now : List Nat) (j : Nat) : Nat → Nat
  | 0 => 0
  | k + 1 => fop .add .f32 (limT xss ws gs now j k) (fop .mul .f32 (fop .mul .f32 (gs.getD k 0) ((xss.getD k []).getD j 0)) (fop .add .f32 (missAt xss ws now k) (fop .mul .f32 ((xss.getD k []).getD j 0) (now.getD j 0))))
def limY (y most : Nat) : Nat :=
  if fcmp .gtr .f32 y most then (if fcmp .lss .f32 most (fneg .f32 most) then fneg .f32 most else most)
  else (if fcmp .lss .f32 y (fneg .f32 most) then fneg .f32 most else y)
theorem limY_1 {y most : Nat} (h : fcmp .gtr .f32 y most = true) (h2 : fcmp .lss .f32 most (fneg .f32 most) = true) : limY y most = fneg .f32 most := by unfold limY; rw [h, h2]; rfl
theorem limY_2 {y most : Nat} (h : fcmp .gtr .f32 y most = true) (h2 : fcmp .lss .f32 most (fneg .f32 most) = false) : limY y most = most := by unfold limY; rw [h, h2]; rfl
theorem limY_3 {y most : Nat} (h : fcmp .gtr .f32 y most = false) (h2 : fcmp .lss .f32 y (fneg .f32 most) = true) : limY y most = fneg .f32 most := by unfold limY; rw [h, h2]; rfl
theorem limY_4 {y most : Nat} (h : fcmp .gtr .f32 y most = false) (h2 : fcmp .lss .f32 y (fneg .f32 most) = false) : limY y most = y := by unfold limY; rw [h, h2]; rfl
def limN (xss : List (List Nat)) (ws gs : List Nat) (most : Nat) (now : List Nat) (j : Nat) : List Nat :=
  if fcmp .gtr .f32 (limS xss gs j xss.length) 0 then now.set j (limY (fop .quo .f32 (limT xss ws gs now j xss.length) (limS xss gs j xss.length)) most) else now
def limJ (xss : List (List Nat)) (ws gs : List Nat) (most : Nat) (now : List Nat) : Nat → List Nat
  | 0 => now
  | j + 1 => limN xss ws gs most (limJ xss ws gs most now j) j
def limR (xss : List (List Nat)) (ws gs : List Nat) (most : Nat) (x : List Nat) : Nat → List Nat
  | 0 => x
  | k + 1 => limJ xss ws gs most (limR xss ws gs most x k) x.length
theorem limN_length (xss : List (List Nat)) (ws gs : List Nat) (most : Nat) (now : List Nat) (j : Nat) : (limN xss ws gs most now j).length = now.length := by
  unfold limN; split <;> simp
theorem limJ_length (xss : List (List Nat)) (ws gs : List Nat) (most : Nat) (now : List Nat) : ∀ j, (limJ xss ws gs most now j).length = now.length
  | 0 => rfl
  | j + 1 => by rw [limJ, limN_length, limJ_length xss ws gs most now j]
theorem limR_length (xss : List (List Nat)) (ws gs : List Nat) (most : Nat) (x : List Nat) : ∀ k, (limR xss ws gs most x k).length = x.length
  | 0 => rfl
  | k + 1 => by rw [limR, limJ_length, limR_length xss ws gs most x k]
theorem limN_no {xss : List (List Nat)} {ws gs : List Nat} {most : Nat} {now : List Nat} {j : Nat} (h : fcmp .gtr .f32 (limS xss gs j xss.length) 0 = false) : limN xss ws gs most now j = now := by
  unfold limN; rw [h]; rfl
theorem limN_yes {xss : List (List Nat)} {ws gs : List Nat} {most : Nat} {now : List Nat} {j : Nat} (h : fcmp .gtr .f32 (limS xss gs j xss.length) 0 = true) : limN xss ws gs most now j = now.set j (limY (fop .quo .f32 (limT xss ws gs now j xss.length) (limS xss gs j xss.length)) most) := by
  unfold limN; rw [h]; rfl
theorem can_set {xs : List Nat} {j y : Nat} (h : ∀ x ∈ xs, Can .f32 x) (hy : Can .f32 y) : ∀ x ∈ xs.set j y, Can .f32 x := by
  intro x hx
  rcases List.mem_or_eq_of_mem_set hx with h1 | h1
  · exact h x h1
  · rw [h1]; exact hy
theorem fneg_lt (k : FloatKind) {x : Nat} (h : x < 2 ^ k.format.width) : fneg k x < 2 ^ k.format.width := by
  unfold fneg
  refine cb_lt k ?_
  have := negFloat_mod k x
  rw [Nat.mod_eq_of_lt h] at this
  rw [← this]
  exact Nat.mod_lt _ (pow_pos' _)
theorem can_fneg {k : FloatKind} {x : Nat} (h : Can k x) : Can k (fneg k x) := ⟨cb_idem k _, fneg_lt k h.lt⟩
theorem can_limY {y most : Nat} (hy : Can .f32 y) (hm : Can .f32 most) : Can .f32 (limY y most) := by
  unfold limY
  split
  · split
    · exact can_fneg hm
    · exact hm
  · split
    · exact can_fneg hm
    · exact hy
theorem can_limJ {xss : List (List Nat)} {ws gs : List Nat} {most : Nat} {now : List Nat} (hn : ∀ x ∈ now, Can .f32 x) (hm : Can .f32 most) : ∀ j, ∀ x ∈ limJ xss ws gs most now j, Can .f32 x
  | 0 => hn
  | j + 1 => by
    have ih := can_limJ (xss := xss) (ws := ws) (gs := gs) hn hm j
    rw [limJ, limN]
    split
    · exact can_set ih (can_limY (can_fop _ _ _ _) hm)
    · exact ih
theorem can_limR {xss : List (List Nat)} {ws gs : List Nat} {most : Nat} {x : List Nat} (hn : ∀ y ∈ x, Can .f32 y) (hm : Can .f32 most) : ∀ k, ∀ y ∈ limR xss ws gs most x k, Can .f32 y
  | 0 => hn
  | k + 1 => can_limJ (can_limR hn hm k) hm _
noncomputable def limOk (xss : List (List Nat)) (ws gs x : List Nat) (most : Nat) (rn : Int) : Bool := fitsD xss ws gs x && least most && decide (0 ≤ rn ∧ rn ≤ 20)
noncomputable def limD (xss : List (List Nat)) (ws gs x : List Nat) (most : Nat) (rn : Int) : List Nat := if limOk xss ws gs x most rn then limR xss ws gs most x rn.toNat else []
section
variable {xss : List (List Nat)} {ws gs x : List Nat} {most unit : Nat} {rn : Int}
theorem limOk_yes (h : fitsD xss ws gs x = true) (h2 : least most = true) (h3 : 0 ≤ rn ∧ rn ≤ 20) : limOk xss ws gs x most rn = true := by unfold limOk; rw [h, h2, decide_eq_true h3]; rfl
theorem limOk_yes2 (h : fitsD xss ws gs x = true) (h2 : fin most = true) (h4 : fcmp .geq .f32 most 0 = true) (h3 : 0 ≤ rn ∧ rn ≤ 20) : limOk xss ws gs x most rn = true := limOk_yes h (by unfold least; rw [h2, h4]; rfl) h3
theorem limOk_no1 (h : fitsD xss ws gs x = false) : limOk xss ws gs x most rn = false := by unfold limOk; rw [h]; rfl
theorem limOk_no2 (h : least most = false) : limOk xss ws gs x most rn = false := by unfold limOk; rw [h, Bool.and_false]; rfl
theorem limOk_no3 (h : decide (0 ≤ rn ∧ rn ≤ 20) = false) : limOk xss ws gs x most rn = false := by unfold limOk; rw [h, Bool.and_false]
theorem limOk_no4 (h : fin most = false) : limOk xss ws gs x most rn = false := limOk_no2 (by unfold least; rw [h]; rfl)
theorem limOk_no5 (h : fcmp .geq .f32 most 0 = false) : limOk xss ws gs x most rn = false := limOk_no2 (by unfold least; rw [h, Bool.and_false])
end
theorem limD_yes {xss : List (List Nat)} {ws gs x : List Nat} {most : Nat} {rn : Int} (h : limOk xss ws gs x most rn = true) : limD xss ws gs x most rn = limR xss ws gs most x rn.toNat := by simp [limD, h]
theorem limD_no {xss : List (List Nat)} {ws gs x : List Nat} {most : Nat} {rn : Int} (h : limOk xss ws gs x most rn = false) : limD xss ws gs x most rn = [] := by simp [limD, h]
theorem can_limD {xss : List (List Nat)} {ws gs x : List Nat} {most : Nat} {rn : Int} (hx : ∀ y ∈ x, Can .f32 y) (hm : Can .f32 most) : ∀ y ∈ limD xss ws gs x most rn, Can .f32 y := by
  unfold limD; split
  · exact can_limR hx hm _
  · intro y hy; cases hy
theorem length_limD (xss : List (List Nat)) (ws gs x : List Nat) (most : Nat) (rn : Int) : (limD xss ws gs x most rn).length ≤ 8 := by
  unfold limD; split
  · rename_i h
    unfold limOk at h
    simp only [Bool.and_eq_true] at h
    have := fits_is h.1.1
    rw [limR_length]
    have := this.1.2.2.2.2.2.2.2
    omega
  · simp

/-! ### steps that improve -/
def impN (sq : List Nat → Nat) (unit : Nat) (s : List Nat × Nat) (j : Nat) : List Nat × Nat :=
  if fcmp .lss .f32 (sq (s.1.set j (fop .add .f32 (s.1.getD j 0) unit))) (sq s.1) then (s.1.set j (fop .add .f32 (s.1.getD j 0) unit), s.2 + 1)
  else if fcmp .lss .f32 (sq (s.1.set j (fop .sub .f32 (s.1.getD j 0) unit))) (sq s.1) then (s.1.set j (fop .sub .f32 (s.1.getD j 0) unit), s.2 + 1) else s
def impJ (sq : List Nat → Nat) (unit : Nat) (s : List Nat × Nat) : Nat → List Nat × Nat
  | 0 => s
  | j + 1 => impN sq unit (impJ sq unit s j) j
def impF (sq : List Nat → Nat) (unit : Nat) (s : List Nat × Nat) : Nat → List Nat × Nat
  | 0 => s
  | r + 1 => if (impJ sq unit s s.1.length).2 = s.2 then impJ sq unit s s.1.length else impF sq unit (impJ sq unit s s.1.length) r
theorem impN_up {sq : List Nat → Nat} {unit : Nat} {s : List Nat × Nat} {j : Nat} (h : fcmp .lss .f32 (sq (s.1.set j (fop .add .f32 (s.1.getD j 0) unit))) (sq s.1) = true) : impN sq unit s j = (s.1.set j (fop .add .f32 (s.1.getD j 0) unit), s.2 + 1) := by
  unfold impN; rw [h]; rfl
theorem impN_down {sq : List Nat → Nat} {unit : Nat} {s : List Nat × Nat} {j : Nat} (h : fcmp .lss .f32 (sq (s.1.set j (fop .add .f32 (s.1.getD j 0) unit))) (sq s.1) = false) (h2 : fcmp .lss .f32 (sq (s.1.set j (fop .sub .f32 (s.1.getD j 0) unit))) (sq s.1) = true) : impN sq unit s j = (s.1.set j (fop .sub .f32 (s.1.getD j 0) unit), s.2 + 1) := by
  unfold impN; rw [h, h2]; rfl
theorem impN_no {sq : List Nat → Nat} {unit : Nat} {s : List Nat × Nat} {j : Nat} (h : fcmp .lss .f32 (sq (s.1.set j (fop .add .f32 (s.1.getD j 0) unit))) (sq s.1) = false) (h2 : fcmp .lss .f32 (sq (s.1.set j (fop .sub .f32 (s.1.getD j 0) unit))) (sq s.1) = false) : impN sq unit s j = s := by
  unfold impN; rw [h, h2]; rfl
theorem impN_facts (sq : List Nat → Nat) (unit : Nat) (s : List Nat × Nat) (j : Nat) : (impN sq unit s j).1.length = s.1.length ∧ (∀ i, i ≠ j → (impN sq unit s j).1.getD i 0 = s.1.getD i 0) ∧ s.2 ≤ (impN sq unit s j).2 ∧ (impN sq unit s j).2 ≤ s.2 + 1 := by
  have key : ∀ (v i : Nat), i ≠ j → (s.1.set j v).getD i 0 = s.1.getD i 0 := fun v i h => by
    simp only [List.getD]
    rw [List.getElem?_set_ne (Ne.symm h)]
  unfold impN
  split
  · exact ⟨by simp, fun i h => key _ i h, by simp, by simp⟩
  · split
    · exact ⟨by simp, fun i h => key _ i h, by simp, by simp⟩
    · exact ⟨rfl, fun _ _ => rfl, Nat.le_refl _, Nat.le_succ _⟩
theorem impJ_facts (sq : List Nat → Nat) (unit : Nat) (s : List Nat × Nat) : ∀ j, (impJ sq unit s j).1.length = s.1.length ∧ (∀ i, j ≤ i → (impJ sq unit s j).1.getD i 0 = s.1.getD i 0) ∧ s.2 ≤ (impJ sq unit s j).2 ∧ (impJ sq unit s j).2 ≤ s.2 + j
  | 0 => ⟨rfl, fun _ _ => rfl, Nat.le_refl _, Nat.le_refl _⟩
  | j + 1 => by
    obtain ⟨h1, h2, h3, h4⟩ := impJ_facts sq unit s j
    obtain ⟨g1, g2, g3, g4⟩ := impN_facts sq unit (impJ sq unit s j) j
    rw [impJ]
    exact ⟨g1.trans h1, fun i hi => (g2 i (by omega)).trans (h2 i (by omega)), by omega, by omega⟩
theorem can_impJ {sq : List Nat → Nat} {unit : Nat} {s : List Nat × Nat} (h : ∀ x ∈ s.1, Can .f32 x) : ∀ j, ∀ x ∈ (impJ sq unit s j).1, Can .f32 x
  | 0 => h
  | j + 1 => by
    have ih := can_impJ (sq := sq) (unit := unit) h j
    rw [impJ, impN]
    split
    · exact can_set ih (can_fop _ _ _ _)
    · split
      · exact can_set ih (can_fop _ _ _ _)
      · exact ih
theorem can_impF {sq : List Nat → Nat} {unit : Nat} : ∀ (r : Nat) {s : List Nat × Nat}, (∀ x ∈ s.1, Can .f32 x) → ∀ x ∈ (impF sq unit s r).1, Can .f32 x
  | 0, _, h => h
  | r + 1, s, h => by
    rw [impF]
    split
    · exact can_impJ h _
    · exact can_impF r (can_impJ h _)
theorem impF_length {sq : List Nat → Nat} {unit : Nat} : ∀ (r : Nat) (s : List Nat × Nat), (impF sq unit s r).1.length = s.1.length
  | 0, _ => rfl
  | r + 1, s => by
    rw [impF]
    split
    · exact (impJ_facts sq unit s _).1
    · exact (impF_length r _).trans (impJ_facts sq unit s _).1
theorem impF_stop {sq : List Nat → Nat} {unit : Nat} {s z : List Nat × Nat} {R k : Nat} (hk : k < R) (h : impF sq unit s (R - k) = z) (he : (impJ sq unit s s.1.length).2 = s.2) : impJ sq unit s s.1.length = z := by
  obtain ⟨r, hr⟩ : ∃ r, R - k = r + 1 := ⟨R - k - 1, by omega⟩
  rw [hr, impF, if_pos he] at h
  exact h
theorem impF_go {sq : List Nat → Nat} {unit : Nat} {s z : List Nat × Nat} {R k : Nat} (hk : k < R) (h : impF sq unit s (R - k) = z) (he : ¬ (impJ sq unit s s.1.length).2 = s.2) : impF sq unit (impJ sq unit s s.1.length) (R - (k + 1)) = z := by
  obtain ⟨r, hr⟩ : ∃ r, R - k = r + 1 := ⟨R - k - 1, by omega⟩
  rw [hr, impF, if_neg he] at h
  rw [show R - (k + 1) = r by omega]
  exact h
noncomputable def impOk (xss : List (List Nat)) (ws gs x : List Nat) (unit : Nat) (rn : Int) : Bool := fitsD xss ws gs x && above unit && decide (0 ≤ rn ∧ rn ≤ 20)
noncomputable def impD (xss : List (List Nat)) (ws gs x : List Nat) (unit : Nat) (rn : Int) : List Nat × Nat := if impOk xss ws gs x unit rn then impF (fun y => sqK xss ws gs y xss.length) unit (x, 0) rn.toNat else ([], 0)
section
variable {xss : List (List Nat)} {ws gs x : List Nat} {most unit : Nat} {rn : Int}
theorem impOk_yes (h : fitsD xss ws gs x = true) (h2 : above unit = true) (h3 : 0 ≤ rn ∧ rn ≤ 20) : impOk xss ws gs x unit rn = true := by unfold impOk; rw [h, h2, decide_eq_true h3]; rfl
theorem impOk_no1 (h : fitsD xss ws gs x = false) : impOk xss ws gs x unit rn = false := by unfold impOk; rw [h]; rfl
theorem impOk_no2 (h : above unit = false) : impOk xss ws gs x unit rn = false := by unfold impOk; rw [h, Bool.and_false]; rfl
theorem impOk_no3 (h : decide (0 ≤ rn ∧ rn ≤ 20) = false) : impOk xss ws gs x unit rn = false := by unfold impOk; rw [h, Bool.and_false]
end
theorem impD_yes {xss : List (List Nat)} {ws gs x : List Nat} {unit : Nat} {rn : Int} (h : impOk xss ws gs x unit rn = true) : impD xss ws gs x unit rn = impF (fun y => sqK xss ws gs y xss.length) unit (x, 0) rn.toNat := by simp [impD, h]
theorem impD_no {xss : List (List Nat)} {ws gs x : List Nat} {unit : Nat} {rn : Int} (h : impOk xss ws gs x unit rn = false) : impD xss ws gs x unit rn = ([], 0) := by simp [impD, h]
theorem can_impD {xss : List (List Nat)} {ws gs x : List Nat} {unit : Nat} {rn : Int} (hx : ∀ y ∈ x, Can .f32 y) : ∀ y ∈ (impD xss ws gs x unit rn).1, Can .f32 y := by
  unfold impD; split
  · exact can_impF _ hx
  · intro y hy; cases hy
theorem length_impD (xss : List (List Nat)) (ws gs x : List Nat) (unit : Nat) (rn : Int) : (impD xss ws gs x unit rn).1.length ≤ 8 := by
  unfold impD; split
  · rename_i h
    unfold impOk at h
    simp only [Bool.and_eq_true] at h
    have := fits_is h.1.1
    rw [impF_length]
    have := this.1.2.2.2.2.2.2.2
    simp only
    omega
  · simp
end Go.Proofs.Ytacjcomjnabmhaa
