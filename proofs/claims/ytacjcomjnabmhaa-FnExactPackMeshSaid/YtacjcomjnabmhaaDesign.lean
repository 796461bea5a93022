/- Designs: plain words for what is valid, what is found. -/
import Derived.Test.YtacjcomjnabmhaaNest
import Derived.Test.YtacjcomjnabmhaaSolve
namespace Go.Proofs.Ytacjcomjnabmhaa
open Go.RowKit

theorem fin_num {x : Nat} (h : fin x = true) : fnan .f32 x = false := by
  cases hn : fnan .f32 x
  · rfl
  · exfalso
    have h1 : fop .sub .f32 x x = qn .f32 := by simp [fop, floatBits_nan_left hn]
    unfold fin at h
    rw [h1] at h
    revert h
    decide
theorem order_some {x y : Nat} (hx : fnan .f32 x = false) (hy : fnan .f32 y = false) : ∃ o, FloatKind.f32.format.order x y = some o := by
  have h1 := read_num hx
  have h2 := read_num hy
  unfold Ieee.Format.order
  generalize FloatKind.f32.format.read x = a at h1 ⊢
  generalize FloatKind.f32.format.read y = b at h2 ⊢
  cases a <;> cases b <;> simp [Ieee.Datum.isNaN, Ieee.Datum.order] at h1 h2 ⊢
theorem lss_geq {x : Nat} (h : fin x = true) : fcmp .lss .f32 x 0 = !fcmp .geq .f32 x 0 := by
  obtain ⟨o, ho⟩ := order_some (fin_num h) (show fnan .f32 0 = false by decide)
  simp only [fcmp, ho]
  cases o <;> rfl

/-! ### the first index of which something holds -/
def idxI (p : Nat → Bool) : Nat → Int
  | 0 => -1
  | n + 1 => if 0 ≤ idxI p n then idxI p n else if p n then n else -1
theorem idxI_no {p : Nat → Bool} : ∀ {n : Nat}, (∀ j, j < n → p j = false) → idxI p n = -1
  | 0, _ => rfl
  | n + 1, h => by
    have := idxI_no (n := n) (fun j hj => h j (by omega))
    simp [idxI, this, h n (by omega)]
theorem idxI_of {p : Nat → Bool} {k : Nat} (h : ∀ j, j < k → p j = false) (hk : p k = true) : ∀ {n : Nat}, k < n → idxI p n = k
  | 0, h => by omega
  | n + 1, hn => by
    by_cases e : k = n
    · subst e
      simp [idxI, idxI_no h, hk]
    · have := idxI_of h hk (n := n) (by omega)
      simp [idxI, this]
theorem idxI_any (p : Nat → Bool) : ∀ (n : Nat), decide (0 ≤ idxI p n) = (List.range n).any p
  | 0 => rfl
  | n + 1 => by
    have ih := idxI_any p n
    rw [List.range_succ, List.any_append, ← ih]
    simp only [idxI]
    by_cases h : 0 ≤ idxI p n
    · simp [h]
    · rcases Bool.eq_false_or_eq_true (p n) with hp | hp
      · simp [h, hp]
      · simp [h, hp]
theorem any_list (p : Nat → Bool) (xs : List Nat) : (List.range xs.length).any (fun k => p (xs.getD k 0)) = xs.any p := by
  rw [Bool.eq_iff_iff, List.any_eq_true, List.any_eq_true]
  constructor
  · rintro ⟨k, hk, h⟩
    simp only [List.mem_range] at hk
    exact ⟨_, getD_mem hk, h⟩
  · rintro ⟨x, hx, h⟩
    obtain ⟨k, hk, rfl⟩ := List.getElem_of_mem hx
    exact ⟨k, by simpa using hk, by simpa [List.getD, hk] using h⟩
theorem all_list (p : Nat → Bool) (xs : List Nat) : (!decide (0 ≤ idxI (fun k => !p (xs.getD k 0)) xs.length)) = xs.all p := by
  rw [idxI_any, any_list (fun x => !p x)]
  induction xs with
  | nil => rfl
  | cons x xs ih => simp only [List.any_cons, List.all_cons, Bool.not_or, Bool.not_not, ih]
theorem all_getD {p : Nat → Bool} {xs : List Nat} : xs.all p = true ↔ ∀ k, k < xs.length → p (xs.getD k 0) = true := by
  rw [List.all_eq_true]
  constructor
  · intro h k hk
    exact h _ (getD_mem hk)
  · intro h x hx
    obtain ⟨k, hk, rfl⟩ := List.getElem_of_mem hx
    have := h k hk
    simpa [List.getD, hk] using this
theorem all_no {p : Nat → Bool} {xs : List Nat} {k : Nat} (hk : k < xs.length) (h : p (xs.getD k 0) = false) : xs.all p = false := by
  rw [Bool.eq_false_iff]
  intro ha
  rw [all_getD.1 ha k hk] at h
  cases h

theorem idxI_t {p : Nat → Bool} {n : Nat} (h : decide (0 ≤ idxI p n) = true) : ∃ k, k < n ∧ p k = true := by
  rw [idxI_any, List.any_eq_true] at h
  obtain ⟨k, hk, h⟩ := h
  exact ⟨k, by simpa using hk, h⟩
theorem idxI_f {p : Nat → Bool} {n : Nat} (h : decide (0 ≤ idxI p n) = false) : ∀ k, k < n → p k = false := by
  intro k hk
  cases hp : p k
  · rfl
  · rw [idxI_any, List.any_eq_false] at h
    exact absurd hp (h k (by simpa using hk))
theorem szOf_le {left : Int} (h : 0 ≤ left) (m : Nat) : szOf left m ≤ left := by unfold szOf; split <;> omega
theorem szOf_neg {left : Int} {m m' : Nat} (h : szOf left m < 0) (hm : m ≤ m') : szOf left m' = -1 := by
  unfold szOf at *
  split at h
  · rw [if_pos (by omega)]
  · omega
theorem szOf_add {left : Int} {m k : Nat} (h : 0 ≤ szOf left m) : szOf (szOf left m) k = szOf left (m + k) := by
  have : ¬ left < m := by intro g; rw [szOf, if_pos g] at h; omega
  have e : szOf left m = left - m := by rw [szOf, if_neg this]
  rw [e]
  unfold szOf
  split <;> split <;> omega
theorem szOf_fits {m : Nat} (h : 0 ≤ szOf 1048576 m) : m ≤ 1048576 := by
  apply Classical.byContradiction
  intro g
  rw [szOf, if_pos (by omega)] at h
  omega
theorem icmp_eqN (a b : Nat) : icmp .eql (a : Int) (b : Int) = decide (a = b) := by
  rw [Bool.eq_iff_iff]
  constructor
  · intro h; have := ic_eql h; rw [decide_eq_true_eq]; omega
  · intro h; rw [decide_eq_true_eq] at h; subst h; simp [icmp]

/-! ### what is valid -/
def rowOk (xs : List Nat) (n : Nat) : Bool := xs.all fin && decide (xs.length = n)
def ValidP (xss : List (List Nat)) (ws gs : List Nat) : Prop :=
  1 ≤ xss.length ∧ xss.length ≤ 48 ∧ gs.length = xss.length ∧ ws.length = xss.length ∧ ws.all fin = true ∧
  (∀ i, i < xss.length → (xss.getD i []).length = (xss.getD 0 []).length ∧ (xss.getD i []).all fin = true ∧ least (gs.getD i 0) = true) ∧ 1 ≤ (xss.getD 0 []).length ∧ (xss.getD 0 []).length ≤ 8
noncomputable def validD (xss : List (List Nat)) (ws gs : List Nat) : Bool := @decide (ValidP xss ws gs) (Classical.propDecidable _)
theorem valid_yes {xss : List (List Nat)} {ws gs : List Nat} (h : ValidP xss ws gs) : validD xss ws gs = true := by
  unfold validD; exact @decide_eq_true _ (Classical.propDecidable _) h
theorem valid_no {xss : List (List Nat)} {ws gs : List Nat} (h : ¬ ValidP xss ws gs) : validD xss ws gs = false := by
  unfold validD; exact @decide_eq_false _ (Classical.propDecidable _) h
theorem valid_is {xss : List (List Nat)} {ws gs : List Nat} (h : validD xss ws gs = true) : ValidP xss ws gs := by
  unfold validD at h; exact @of_decide_eq_true _ (Classical.propDecidable _) h
theorem valid_not {xss : List (List Nat)} {ws gs : List Nat} (h : validD xss ws gs = false) : ¬ ValidP xss ws gs := by
  unfold validD at h; exact @of_decide_eq_false _ (Classical.propDecidable _) h

theorem rowOk_t {xs : List Nat} {n : Nat} (h : rowOk xs n = true) : xs.length = n ∧ xs.all fin = true := by
  unfold rowOk at h
  simp only [Bool.and_eq_true, decide_eq_true_eq] at h
  exact ⟨h.2, h.1⟩
theorem rowOk_f {xs : List Nat} {n : Nat} (h : rowOk xs n = false) : ¬ (xs.length = n ∧ xs.all fin = true) := by
  rintro ⟨h1, h2⟩
  rw [rowOk, h2, decide_eq_true h1] at h
  cases h

section
variable {P : Program} {n : Nat} {w0 : World} {O : List Ent} {E : Env} {o : Oper}
/-- A function value with captured pointers. -/
theorem yr_func1 {f : Fn} {c : Operand} {p : Option Addr} (ho : o.op = .makeFunc f #[] #[c]) (hc : E.opd c = some (.pointer p)) : YR P E o (.func f #[] #[.pointer p]) :=
  yr_func ho (fun ρ hE => by simp [cn_pointer (hE.get (x := c) (by simp [ho, Op.operands]) hc)]) (fun _ => rfl)
theorem yr_func0 {f : Fn} (ho : o.op = .makeFunc f #[] #[]) : YR P E o (.func f #[] #[]) := yr_func ho (fun _ _ => by simp) (fun _ => rfl)
end
end Go.Proofs.Ytacjcomjnabmhaa
