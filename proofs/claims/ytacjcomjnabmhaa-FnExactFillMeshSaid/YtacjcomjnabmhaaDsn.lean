/- The design of wires and points: plain words. -/
import Derived.Test.YtacjcomjnabmhaaLine
import Derived.Test.YtacjcomjnabmhaaOwn
namespace Go.Proofs.Ytacjcomjnabmhaa
open Go.RowKit

theorem fmul_comm (a b : Nat) : fop .mul .f32 a b = fop .mul .f32 b a := by
  have key : ∀ d e : Ieee.Datum, d.product e = e.product d := by
    intro d e
    cases d <;> cases e <;> simp [Ieee.Datum.product, Bool.xor_comm, Nat.mul_comm, Int.add_comm]
  unfold fop floatBits Ieee.Format.mul
  simp only
  rw [key]
theorem inner_comm (a b : V3) : inner3 a b = inner3 b a := by
  unfold inner3
  rw [fmul_comm a.1, fmul_comm a.2.1, fmul_comm a.2.2]
/-- what is no number, or too great, stays so in a sum -/
theorem fin_add {a b : Nat} (h : fin (fop .add .f32 a b) = true) : fin a = true ∧ fin b = true := by
  have one : ∀ x y : Nat, (∀ d e : Ieee.Datum, d = d → e = e → True) → fin (fop .add .f32 x y) = true → fnan .f32 x = false ∧ fnan .f32 y = false := by
    intro x y _ h
    constructor
    · cases hn : fnan .f32 x
      · rfl
      · have h1 : fop .add .f32 x y = qn .f32 := by simp [fop, floatBits_nan_left hn]
        rw [h1] at h; revert h; decide
    · cases hn : fnan .f32 y
      · rfl
      · have h1 : fop .add .f32 x y = qn .f32 := by simp [fop, floatBits_nan_right hn]
        rw [h1] at h; revert h; decide
  obtain ⟨ha, hb⟩ := one a b (fun _ _ _ _ => trivial) h
  have nb : (Ieee.single.read b).isNaN = false := read_num hb
  have na : (Ieee.single.read a).isNaN = false := read_num ha
  constructor
  · rcases Nat.lt_or_ge (rng Ieee.single a) Ieee.single.infRung with hl | hl
    · exact fin_of_rng hl
    · exfalso
      have hi : Ieee.single.read a = .infinity (sgn Ieee.single a) := read_inf .f32 (Nat.le_antisymm (rng_le ha) hl)
      revert h
      unfold fop floatBits Ieee.Format.add
      simp only [show FloatKind.f32.format = Ieee.single from rfl, hi]
      generalize sgn Ieee.single a = s
      generalize hd : Ieee.single.read b = d
      rw [hd] at nb
      cases d with
      | nan => cases nb
      | infinity t =>
        simp only [Ieee.Datum.sum]
        split
        · simp only [Option.map_some, Option.getD_some]; cases s <;> decide
        · simp only [Option.map_none, Option.getD_none]; decide
      | number t n i => simp only [Ieee.Datum.sum, Option.map_some, Option.getD_some]; cases s <;> decide
  · rcases Nat.lt_or_ge (rng Ieee.single b) Ieee.single.infRung with hl | hl
    · exact fin_of_rng hl
    · exfalso
      have hi : Ieee.single.read b = .infinity (sgn Ieee.single b) := read_inf .f32 (Nat.le_antisymm (rng_le hb) hl)
      revert h
      unfold fop floatBits Ieee.Format.add
      simp only [show FloatKind.f32.format = Ieee.single from rfl, hi]
      generalize sgn Ieee.single b = s
      generalize hd : Ieee.single.read a = d
      rw [hd] at na
      cases d with
      | nan => cases na
      | infinity t =>
        simp only [Ieee.Datum.sum]
        split
        · simp only [Option.map_some, Option.getD_some]; cases t <;> decide
        · simp only [Option.map_none, Option.getD_none]; decide
      | number t n i => simp only [Ieee.Datum.sum, Option.map_some, Option.getD_some]; cases s <;> decide
theorem inner_fin {f w : V3} (h : fin (inner3 w f) = true) : fin3 f = true := by
  rw [inner_comm] at h
  unfold inner3 at h
  have h1 := fin_add h
  have h2 := fin_add h1.1
  unfold fin3
  rw [fin_mul h2.1, fin_mul h2.2, fin_mul h1.2]; rfl

def coF (ws : List Wr) (p : V3) (j : Nat) : V3 := wireF ((ws.getD j zw).1, (ws.getD j zw).2.1, 1065353216) p
def dRow (ws : List Wr) (way p : V3) (k : Nat) : List Nat := (List.range k).map fun j => inner3 way (coF ws p j)
def dX (ws : List Wr) (vs : List V3) (way : V3) : List (List Nat) := (List.range vs.length).map fun i => dRow ws way (vs.getD i z3) ws.length
def dG (n : Nat) : List Nat := List.replicate n 1065353216
section
variable {ws : List Wr} {vs : List V3} {way p : V3} {xs : List Nat} {i j k : Nat} {g : Nat → Option Addr × Nat}
theorem dRow_length : (dRow ws way p k).length = k := by simp [dRow]
theorem dX_length : (dX ws vs way).length = vs.length := by simp [dX]
theorem dG_length : (dG k).length = k := by simp [dG]
theorem dG_fl : fl (dG k) ++ [.float .f32 1065353216] = fl (dG (k + 1)) := by rw [fl_snoc]; unfold dG; rw [List.replicate_succ']
theorem dRow_fl : fl (dRow ws way p k) ++ [.float .f32 (inner3 way (coF ws p k))] = fl (dRow ws way p (k + 1)) := by rw [fl_snoc]; unfold dRow; rw [List.range_succ]; simp
theorem dRow_flS : fl (dRow ws way p k) ++ [.float .f32 (inner3 (coF ws p k) way)] = fl (dRow ws way p (k + 1)) := by rw [inner_comm]; exact dRow_fl
theorem dRow_fl' (h : fin3 (coF ws p k) = true) : fl (dRow ws way p k) ++ [.float .f32 (inner3 (ifV (coF ws p k)) way)] = fl (dRow ws way p (k + 1)) := by
  rw [← ifV_yes h, inner_comm]; exact dRow_fl
theorem dX_get (h : i < vs.length) : (dX ws vs way).getD i [] = dRow ws way (vs.getD i z3) ws.length := by simp [dX, List.getD, h]
theorem hd_dX {a : Option Addr} {c : Nat} (h : i < vs.length) : hd g ((dX ws vs way).take i) ++ [.slice a ws.length c] = hd (upd g i (a, c)) ((dX ws vs way).take (i + 1)) := by
  have := hd_take (f := g) (xss := dX ws vs way) (k := i) (by rw [dX_length]; exact h) (a, c)
  rwa [dX_get h, dRow_length] at this
theorem dX_take : (dX ws vs way).take vs.length = dX ws vs way := List.take_of_length_le (by rw [dX_length]; exact Nat.le_refl _)
theorem dG_get (h : i < k) : (dG k).getD i 0 = 1065353216 := by simp [dG, List.getD, h]
theorem can_one : Can .f32 1065353216 := ⟨by decide, by decide⟩
theorem fin_one : fin 1065353216 = true := by decide
theorem can_dG : ∀ x ∈ dG k, Can .f32 x := by
  intro x hx
  rw [List.eq_of_mem_replicate hx]
  exact can_one
theorem can_inner (a b : V3) : Can .f32 (inner3 a b) := can_fop _ _ _ _
theorem cans_dX : Cans (dX ws vs way) := by
  intro r hr x hx
  obtain ⟨i, _, rfl⟩ := List.mem_map.1 hr
  obtain ⟨j, _, rfl⟩ := List.mem_map.1 hx
  exact can_inner _ _
theorem ds_notfin (hi : i < vs.length) (hj : j < ws.length) (h : fin3 (coF ws (vs.getD i z3) j) = false) : validD (dX ws vs way) xs (dG vs.length) = false := by
  refine valid_no fun hv => ?_
  obtain ⟨v1, v2, v3, v4, v5, v6, v7, v8⟩ := hv
  have h6 := (v6 i (by rw [dX_length]; exact hi)).2.1
  rw [dX_get hi, List.all_eq_true] at h6
  have := h6 _ (List.mem_map.2 ⟨j, by simpa using hj, rfl⟩)
  rw [inner_fin this] at h
  cases h
end
noncomputable def dsOk (ws : List Wr) (vs : List V3) (way : V3) (xs : List Nat) : Bool := dwOk ws && dpOk vs && decide (xs.length = vs.length) && validD (dX ws vs way) xs (dG vs.length)
noncomputable def dsX (ws : List Wr) (vs : List V3) (way : V3) (xs : List Nat) : List (List Nat) := if dsOk ws vs way xs then dX ws vs way else []
noncomputable def dsW (ws : List Wr) (vs : List V3) (way : V3) (xs : List Nat) : List Nat := if dsOk ws vs way xs then xs else []
noncomputable def dsG (ws : List Wr) (vs : List V3) (way : V3) (xs : List Nat) : List Nat := if dsOk ws vs way xs then dG vs.length else []
section
variable {ws : List Wr} {vs : List V3} {way : V3} {xs : List Nat}
theorem ds_yes (h1 : dwOk ws = true) (h2 : dpOk vs = true) (h3 : xs.length = vs.length) (h4 : validD (dX ws vs way) xs (dG vs.length) = true) : dsOk ws vs way xs = true := by unfold dsOk; rw [h1, h2, h4, decide_eq_true h3]; rfl
theorem ds_no1 (h : dwOk ws = false) : dsOk ws vs way xs = false := by unfold dsOk; rw [h]; rfl
theorem ds_no2 (h : dpOk vs = false) : dsOk ws vs way xs = false := by unfold dsOk; rw [h, Bool.and_false]; rfl
theorem ds_no3 (h : ¬ xs.length = vs.length) : dsOk ws vs way xs = false := by unfold dsOk; rw [decide_eq_false h, Bool.and_false]; rfl
theorem ds_no4 (h : validD (dX ws vs way) xs (dG vs.length) = false) : dsOk ws vs way xs = false := by unfold dsOk; rw [h, Bool.and_false]
theorem dsX_yes (h : dsOk ws vs way xs = true) : dsX ws vs way xs = dX ws vs way := by unfold dsX; rw [h]; rfl
theorem dsW_yes (h : dsOk ws vs way xs = true) : dsW ws vs way xs = xs := by unfold dsW; rw [h]; rfl
theorem dsG_yes (h : dsOk ws vs way xs = true) : dsG ws vs way xs = dG vs.length := by unfold dsG; rw [h]; rfl
theorem dsX_no (h : dsOk ws vs way xs = false) : dsX ws vs way xs = [] := by unfold dsX; rw [h]; rfl
theorem dsW_no (h : dsOk ws vs way xs = false) : dsW ws vs way xs = [] := by unfold dsW; rw [h]; rfl
theorem dsG_no (h : dsOk ws vs way xs = false) : dsG ws vs way xs = [] := by unfold dsG; rw [h]; rfl
theorem cans_dsX : Cans (dsX ws vs way xs) := by unfold dsX; split; exact cans_dX; exact cans_nil
theorem can_dsW (h : ∀ x ∈ xs, Can .f32 x) : ∀ x ∈ dsW ws vs way xs, Can .f32 x := by
  unfold dsW; split
  · exact h
  · intro x hx; cases hx
theorem can_dsG : ∀ x ∈ dsG ws vs way xs, Can .f32 x := by
  unfold dsG; split
  · exact can_dG
  · intro x hx; cases hx
theorem ds_small : bulk (dsX ws vs way xs) + (dsW ws vs way xs).length + (dsG ws vs way xs).length ≤ 528 := by
  cases h : dsOk ws vs way xs
  · rw [dsX_no h, dsW_no h, dsG_no h]; simp [bulk, sumK]
  · rw [dsX_yes h, dsW_yes h, dsG_yes h]
    unfold dsOk at h
    rw [Bool.and_eq_true] at h
    exact valid_small (valid_is h.2)
theorem bulk_dX (h : dwOk ws = true) (h2 : dpOk vs = true) : bulk (dX ws vs way) ≤ 432 := by
  have h3 := (dwOk_is h).1.2
  have h4 := (dpOk_is h2).1.2
  have := sumK_le (xss := dX ws vs way) (b := 8) (fun i hi => by rw [dX_length] at hi; rw [dX_get hi, dRow_length]; exact h3) _ (Nat.le_refl _)
  unfold bulk
  rw [dX_length] at *
  omega
end
end Go.Proofs.Ytacjcomjnabmhaa
