/- Steps in parts: plain words. -/
import Derived.Test.YtacjcomjnabmhaaLine
namespace Go.Proofs.Ytacjcomjnabmhaa
open Go.RowKit

def stK (ws : List Wr) (p : V3) (h : Nat) : Nat → V3 × Bool
  | 0 => (p, true)
  | k + 1 => if (stK ws p h k).2 then (stepV ws (stK ws p h k).1 h, stepOk ws (stK ws p h k).1 h) else (z3, false)
theorem stK_zero (ws : List Wr) (p : V3) (h : Nat) : stK ws p h 0 = (p, true) := rfl
section
variable {ws : List Wr} {p : V3} {h st near : Nat}
theorem stK_succ {k : Nat} (hk : (stK ws p h k).2 = true) : stK ws p h (k + 1) = (stepV ws (stK ws p h k).1 h, stepOk ws (stK ws p h k).1 h) := by rw [stK, hk]; rfl
theorem stK_box {k : Nat} (hk : (stK ws p h k).2 = true) : stepV ws (stK ws p h k).1 h = (stK ws p h (k + 1)).1 := by rw [stK_succ hk]
theorem stK_ok {k : Nat} (hk : (stK ws p h k).2 = true) (h2 : stepOk ws (stK ws p h k).1 h = true) : (stK ws p h (k + 1)).2 = true ∧ fin3 (stK ws p h (k + 1)).1 = true := by
  rw [stK_succ hk]; exact ⟨h2, step_fin h2⟩
theorem stK_dead : ∀ {n k : Nat}, stK ws p h k = (z3, false) → k ≤ n → stK ws p h n = (z3, false)
  | 0, k, h1, h2 => by rwa [show k = 0 by omega] at h1
  | n + 1, k, h1, h2 => by
    by_cases e : k = n + 1
    · rwa [e] at h1
    · rw [stK, stK_dead h1 (by omega)]; rfl
theorem stK_bad {n k : Nat} (hk : (stK ws p h k).2 = true) (h2 : stepOk ws (stK ws p h k).1 h = false) (hn : k < n) : stK ws p h n = (z3, false) :=
  stK_dead (k := k + 1) (by rw [stK_succ hk, h2]; unfold stepV; rw [h2]; rfl) (by omega)
theorem can_stK (hp : Can3 p) : ∀ k, Can3 (stK ws p h k).1
  | 0 => hp
  | k + 1 => by
    rw [stK]; split
    · exact can_stepV
    · exact can_z3
end
def hN (st n : Nat) : Nat := fop .quo .f32 st (FloatKind.f32.nearest (n : Int))
def stN (ws : List Wr) (p : V3) (st n : Nat) : V3 × Bool := stK ws p (hN st n) n
def stR (s : V3 × Bool) : Value := .tuple #[vv s.1, .bool s.2]
theorem stN_bad {ws : List Wr} {p : V3} {st n k : Nat} (hk : (stK ws p (hN st n) k).2 = true) (h2 : stepOk ws (stK ws p (hN st n) k).1 (hN st n) = false) (hn : k < n) : Value.tuple #[vv z3, .bool false] = .tuple #[vv (stN ws p st n).1, .bool (stN ws p st n).2] := by
  unfold stN; rw [stK_bad hk h2 hn]
theorem stN_yes {ws : List Wr} {p : V3} {st n : Nat} (hk : (stK ws p (hN st n) n).2 = true) : Value.tuple #[vv (stK ws p (hN st n) n).1, .bool true] = .tuple #[vv (stN ws p st n).1, .bool (stN ws p st n).2] := by
  unfold stN; rw [hk]
def pw (i : Nat) : Nat := 2 ^ i
theorem pw_succ (i : Nat) : pw (i + 1) = 2 * pw i := by unfold pw; rw [Nat.pow_succ, Nat.mul_comm]
theorem pw_facts {i : Nat} (h : i ≤ 6) : (i < 6 → pw i ≤ 32) ∧ (i = 6 → pw i = 64) ∧ 1 ≤ pw i ∧ pw i ≤ 64 := by
  have : ∀ j : Fin 7, (j.val < 6 → pw j.val ≤ 32) ∧ (j.val = 6 → pw j.val = 64) ∧ 1 ≤ pw j.val ∧ pw j.val ≤ 64 := by decide
  exact this ⟨i, by omega⟩
def fineOk (ws : List Wr) (p : V3) (st near i : Nat) : Bool := (stN ws p st (pw i)).2 && (stN ws p st (2 * pw i)).2 && fcmp .leq .f32 (long3 (sub3 (stN ws p st (pw i)).1 (stN ws p st (2 * pw i)).1)) near
section
variable {ws : List Wr} {p : V3} {st near i : Nat}
theorem fo_1 (h : (stN ws p st (pw i)).2 = false) : fineOk ws p st near i = false := by unfold fineOk; rw [h]; rfl
theorem fo_2 (h : (stN ws p st (2 * pw i)).2 = false) : fineOk ws p st near i = false := by unfold fineOk; rw [h, Bool.and_false]; rfl
theorem fo_3 (h : fcmp .leq .f32 (long3 (sub3 (stN ws p st (pw i)).1 (stN ws p st (2 * pw i)).1)) near = false) : fineOk ws p st near i = false := by unfold fineOk; rw [h, Bool.and_false]
theorem fo_yes (h : (stN ws p st (pw i)).2 = true) (h1 : (stN ws p st (2 * pw i)).2 = true) (h2 : fcmp .leq .f32 (long3 (sub3 (stN ws p st (pw i)).1 (stN ws p st (2 * pw i)).1)) near = true) : fineOk ws p st near i = true := by unfold fineOk; rw [h, h1, h2]; rfl
theorem fo_step (hI : ∀ j, j < i → fineOk ws p st near j = false) (h : fineOk ws p st near i = false) : ∀ j, j < i + 1 → fineOk ws p st near j = false := fun j hj => by
  rcases Nat.lt_or_ge j i with h1 | h1
  · exact hI j h1
  · obtain rfl : j = i := by omega
    exact h
end
def fnI (ws : List Wr) (p : V3) (st near : Nat) : Int := idxI (fineOk ws p st near) 6
def fnB (ws : List Wr) (p : V3) (st near : Nat) : Bool := decide (0 ≤ fnI ws p st near)
def fnN (ws : List Wr) (p : V3) (st near : Nat) : Nat := if fnB ws p st near then pw (fnI ws p st near).toNat else 0
def fnV (ws : List Wr) (p : V3) (st near : Nat) : V3 := if fnB ws p st near then (stN ws p st (2 * pw (fnI ws p st near).toNat)).1 else z3
section
variable {ws : List Wr} {p : V3} {st near i : Nat}
theorem fn_yes (hI : ∀ j, j < i → fineOk ws p st near j = false) (hi : i < 6) (h : fineOk ws p st near i = true) :
    Value.tuple #[vv (stN ws p st (2 * pw i)).1, .int .i64 (pw i : Int), .bool true] = .tuple #[vv (fnV ws p st near), .int .i64 (fnN ws p st near : Int), .bool (fnB ws p st near)] := by
  have h1 : fnI ws p st near = i := idxI_of hI h hi
  have h2 : fnB ws p st near = true := by unfold fnB; rw [h1]; exact decide_eq_true (by omega)
  unfold fnV fnN; rw [h2, h1]; rfl
theorem fn_no' (h2 : fnB ws p st near = false) : Value.tuple #[vv z3, .int .i64 0, .bool false] = .tuple #[vv (fnV ws p st near), .int .i64 (fnN ws p st near : Int), .bool (fnB ws p st near)] := by
  unfold fnV fnN; rw [h2]; rfl
theorem fn_no (hI : ∀ j, j < 6 → fineOk ws p st near j = false) : Value.tuple #[vv z3, .int .i64 0, .bool false] = .tuple #[vv (fnV ws p st near), .int .i64 (fnN ws p st near : Int), .bool (fnB ws p st near)] := by
  have h1 : fnI ws p st near = -1 := idxI_no hI
  exact fn_no' (by unfold fnB; rw [h1]; rfl)
theorem can_fnV (hp : Can3 p) : Can3 (fnV ws p st near) := by
  unfold fnV; split
  · exact can_stK hp _
  · exact can_z3
theorem idxI_lt (q : Nat → Bool) : ∀ n : Nat, idxI q n < (n : Int)
  | 0 => by show (-1 : Int) < 0; decide
  | n + 1 => by
    have ih := idxI_lt q n
    rw [idxI]
    split
    · omega
    · split <;> omega
theorem fnN_le : fnN ws p st near ≤ 64 := by
  unfold fnN; split
  · have h : fnI ws p st near < ((6 : Nat) : Int) := idxI_lt _ _
    exact (pw_facts (i := (fnI ws p st near).toNat) (by omega)).2.2.2
  · exact Nat.zero_le _
end

/-! ### checked -/
def fineArgs (ws : List Wr) (p : V3) (st near : Nat) : Bool := wiresOk ws && fin3 p && fin st && least near
def fsB (ws : List Wr) (p : V3) (st near : Nat) : Bool := fineArgs ws p st near && fnB ws p st near
def fsN (ws : List Wr) (p : V3) (st near : Nat) : Nat := if fineArgs ws p st near then fnN ws p st near else 0
def fsV (ws : List Wr) (p : V3) (st near : Nat) : V3 := if fineArgs ws p st near then fnV ws p st near else z3
section
variable {ws : List Wr} {p : V3} {st near i : Nat}
theorem fa_1 (h : wiresOk ws = false) : fineArgs ws p st near = false := by unfold fineArgs; rw [h]; rfl
theorem fa_2 (h : fin3 p = false) : fineArgs ws p st near = false := by unfold fineArgs; rw [h, Bool.and_false]; rfl
theorem fa_3 (h : fin st = false) : fineArgs ws p st near = false := by unfold fineArgs; rw [h, Bool.and_false]; rfl
theorem fa_4 (h : least near = false) : fineArgs ws p st near = false := by unfold fineArgs; rw [h, Bool.and_false]
theorem fa_5 (h : fin near = false) : fineArgs ws p st near = false := fa_4 (by unfold least; rw [h]; rfl)
theorem fa_yes (h1 : wiresOk ws = true) (h2 : fin3 p = true) (h3 : fin st = true) (h4 : least near = true) : fineArgs ws p st near = true := by unfold fineArgs; rw [h1, h2, h3, h4]; rfl
theorem fa_last (h1 : wiresOk ws = true) (h2 : fin3 p = true) (h3 : fin st = true) (h4 : fin near = true) : fcmp .geq .f32 near 0 = fineArgs ws p st near := by unfold fineArgs least; rw [h1, h2, h3, h4]; rfl
theorem fa_is (h : fineArgs ws p st near = true) : wiresOk ws = true ∧ fin3 p = true := by
  unfold fineArgs at h
  simp only [Bool.and_eq_true] at h
  exact ⟨h.1.1.1, h.1.1.2⟩
theorem fs_no (h : fineArgs ws p st near = false) : Value.tuple #[vv z3, .int .i64 0, .bool false] = .tuple #[vv (fsV ws p st near), .int .i64 (fsN ws p st near : Int), .bool (fsB ws p st near)] := by
  unfold fsV fsN fsB; rw [h]; rfl
theorem fs_yes (h : fineArgs ws p st near = true) : Value.tuple #[vv (fnV ws p st near), .int .i64 (fnN ws p st near : Int), .bool (fnB ws p st near)] = .tuple #[vv (fsV ws p st near), .int .i64 (fsN ws p st near : Int), .bool (fsB ws p st near)] := by
  unfold fsV fsN fsB; rw [h]; rfl
theorem can_fsV (hp : Can3 p) : Can3 (fsV ws p st near) := by unfold fsV; split; exact can_fnV hp; exact can_z3
end
end Go.Proofs.Ytacjcomjnabmhaa
