/- How much the field differs: a walk over points that keeps the least and the greatest. -/
import Derived.Test.YtacjcomjnabmhaaField
namespace Go.Proofs.Ytacjcomjnabmhaa
open Go.RowKit

def flN (x : Nat) (ok : Bool) (s : Nat × Nat × Bool) : Nat × Nat × Bool :=
  if ok && !fcmp .neq .f32 x x then (if !s.2.2 || fcmp .lss .f32 x s.1 then x else s.1, if !s.2.2 || fcmp .gtr .f32 x s.2.1 then x else s.2.1, true) else s
def flX (ws : List Wr) (vs : List V3) (way : V3) (k : Nat) : Nat := inner3 (fieldI ws (vs.getD k z3)) way
def flK (ws : List Wr) (vs : List V3) (way : V3) : Nat → Nat × Nat × Bool
  | 0 => (0, 0, false)
  | k + 1 => flN (flX ws vs way k) (fin3 (fieldI ws (vs.getD k z3))) (flK ws vs way k)
theorem and_tt {a b r : Bool} (h : a = true) (h2 : (a && b) = r) : b = r := by rw [h, Bool.true_and] at h2; exact h2
section
variable {x : Nat} {ok : Bool} {s : Nat × Nat × Bool}
theorem flN_no1 (h : ok = false) : flN x ok s = s := by unfold flN; rw [h]; rfl
theorem flN_no2 (h : ok = true) (h2 : fcmp .neq .f32 x x = true) : flN x ok s = s := by unfold flN; rw [h, h2]; rfl
theorem flN_yes (h : ok = true) (h2 : fcmp .neq .f32 x x = false) : flN x ok s = (if !s.2.2 || fcmp .lss .f32 x s.1 then x else s.1, if !s.2.2 || fcmp .gtr .f32 x s.2.1 then x else s.2.1, true) := by unfold flN; rw [h, h2]; rfl
theorem flN_lo1 (h : ok = true) (h2 : fcmp .neq .f32 x x = false) (h3 : s.2.2 = false) : (flN x ok s).1 = x := by rw [flN_yes h h2, h3]; rfl
theorem flN_lo2 (h : ok = true) (h2 : fcmp .neq .f32 x x = false) (h3 : fcmp .lss .f32 x s.1 = true) : (flN x ok s).1 = x := by rw [flN_yes h h2, h3, Bool.or_true]; rfl
theorem flN_lo3 (h : ok = true) (h2 : fcmp .neq .f32 x x = false) (h3 : s.2.2 = true) (h4 : fcmp .lss .f32 x s.1 = false) : (flN x ok s).1 = s.1 := by rw [flN_yes h h2, h3, h4]; rfl
theorem flN_hi1 (h : ok = true) (h2 : fcmp .neq .f32 x x = false) (h3 : s.2.2 = false) : (flN x ok s).2.1 = x := by rw [flN_yes h h2, h3]; rfl
theorem flN_hi2 (h : ok = true) (h2 : fcmp .neq .f32 x x = false) (h3 : fcmp .gtr .f32 x s.2.1 = true) : (flN x ok s).2.1 = x := by rw [flN_yes h h2, h3, Bool.or_true]; rfl
theorem flN_hi3 (h : ok = true) (h2 : fcmp .neq .f32 x x = false) (h3 : s.2.2 = true) (h4 : fcmp .gtr .f32 x s.2.1 = false) : (flN x ok s).2.1 = s.2.1 := by rw [flN_yes h h2, h3, h4]; rfl
theorem flN_f (h : ok = true) (h2 : fcmp .neq .f32 x x = false) : (flN x ok s).2.2 = true := by rw [flN_yes h h2]
end
def dwOk (ws : List Wr) : Bool := decide (1 ≤ ws.length ∧ ws.length ≤ 8) && ws.all wireOk
def dpOk (vs : List V3) : Bool := decide (1 ≤ vs.length ∧ vs.length ≤ 48) && vs.all fin3
theorem dwOk_is {ws : List Wr} (h : dwOk ws = true) : (1 ≤ ws.length ∧ ws.length ≤ 8) ∧ wiresOk ws = true := by
  unfold dwOk at h
  rw [Bool.and_eq_true, decide_eq_true_eq] at h
  exact ⟨h.1, by unfold wiresOk; rw [h.2, decide_eq_true h.1.2]; rfl⟩
theorem dpOk_is {vs : List V3} (h : dpOk vs = true) : (1 ≤ vs.length ∧ vs.length ≤ 48) ∧ ∀ k, k < vs.length → fin3 (vs.getD k z3) = true := by
  unfold dpOk at h
  rw [Bool.and_eq_true, decide_eq_true_eq] at h
  exact ⟨h.1, vall_getD.1 h.2⟩
theorem dw_impl {ws : List Wr} (h : decide (1 ≤ ws.length ∧ ws.length ≤ 8) = true) : wiresOk ws = dwOk ws := by
  have h8 := of_decide_eq_true h
  unfold wiresOk dwOk; rw [h, decide_eq_true h8.2]
theorem dw_no {ws : List Wr} (h : decide (1 ≤ ws.length ∧ ws.length ≤ 8) = false) : false = dwOk ws := by unfold dwOk; rw [h]; rfl
theorem dw_no2 {ws : List Wr} (h : ¬ (1 ≤ ws.length ∧ ws.length ≤ 8)) : false = dwOk ws := dw_no (decide_eq_false h)
theorem dw_no3 {ws : List Wr} {k : Nat} (hk : k < ws.length) (h : wireOk (ws.getD k zw) = false) : false = dwOk ws := by unfold dwOk; rw [wall_no hk h, Bool.and_false]
theorem dw_yes {ws : List Wr} (h : 1 ≤ ws.length ∧ ws.length ≤ 8) (h2 : ∀ k, k < ws.length → wireOk (ws.getD k zw) = true) : true = dwOk ws := by unfold dwOk; rw [decide_eq_true h, wall_getD.2 h2]; rfl
theorem dp_impl {vs : List V3} (h : decide (1 ≤ vs.length ∧ vs.length ≤ 48) = true) : vs.all fin3 = dpOk vs := by unfold dpOk; rw [h]; rfl
theorem dp_no {vs : List V3} (h : decide (1 ≤ vs.length ∧ vs.length ≤ 48) = false) : false = dpOk vs := by unfold dpOk; rw [h]; rfl
theorem dp_no2 {vs : List V3} (h : ¬ (1 ≤ vs.length ∧ vs.length ≤ 48)) : false = dpOk vs := dp_no (decide_eq_false h)
theorem dp_no3 {vs : List V3} {k : Nat} (hk : k < vs.length) (h : fin3 (vs.getD k z3) = false) : false = dpOk vs := by unfold dpOk; rw [vall_no hk h, Bool.and_false]
theorem dp_yes {vs : List V3} (h : 1 ≤ vs.length ∧ vs.length ≤ 48) (h2 : ∀ k, k < vs.length → fin3 (vs.getD k z3) = true) : true = dpOk vs := by unfold dpOk; rw [decide_eq_true h, vall_getD.2 h2]; rfl
def flOk (ws : List Wr) (vs : List V3) (way : V3) : Bool := dwOk ws && dpOk vs && (flK ws vs way vs.length).2.2
def flF (ws : List Wr) (vs : List V3) (way : V3) : Nat := if flOk ws vs way then fop .sub .f32 (flK ws vs way vs.length).2.1 (flK ws vs way vs.length).1 else 0
def flR (ws : List Wr) (vs : List V3) (way : V3) : Value := .tuple #[.float .f32 (flF ws vs way), .bool (flOk ws vs way)]
section
variable {ws : List Wr} {vs : List V3} {way : V3}
theorem flR_no {o : Bool} (h : flOk ws vs way = o) (ho : o = false) : flR ws vs way = .tuple #[.float .f32 0, .bool false] := by unfold flR flF; rw [h, ho]; rfl
theorem flR_no1 (h : dwOk ws = false) : flR ws vs way = .tuple #[.float .f32 0, .bool false] := flR_no (o := false) (by unfold flOk; rw [h]; rfl) rfl
theorem flR_no2 (h : dpOk vs = false) : flR ws vs way = .tuple #[.float .f32 0, .bool false] := flR_no (o := false) (by unfold flOk; rw [h, Bool.and_false]; rfl) rfl
theorem flR_no3 (h : (flK ws vs way vs.length).2.2 = false) : flR ws vs way = .tuple #[.float .f32 0, .bool false] := flR_no (o := false) (by unfold flOk; rw [h, Bool.and_false]) rfl
theorem flR_yes (h : dwOk ws = true) (h2 : dpOk vs = true) (h3 : (flK ws vs way vs.length).2.2 = true) : flR ws vs way = .tuple #[.float .f32 (fop .sub .f32 (flK ws vs way vs.length).2.1 (flK ws vs way vs.length).1), .bool true] := by unfold flR flF flOk; rw [h, h2, h3]; rfl
theorem can_flF : Can .f32 (flF ws vs way) := by unfold flF; split; exact can_fop _ _ _ _; exact can_f0
end
end Go.Proofs.Ytacjcomjnabmhaa
