/- The bits of a float, and what the two ways to compare say. -/
import Derived.Test.YtacjcomjnabmhaaDesign
namespace Go.Proofs.Ytacjcomjnabmhaa
open Go.RowKit

theorem ext_bits32 {P : Program} (vs : Array Value) (w : World) {x : Nat} (hn : fnan .f32 x = false) (h : vs.toList.map cn = [.float .f32 x]) : ∃ v w', (Extern.MathFloatBits.float32bits vs).run P w = .ok v w' ∧ cn v = .int .u32 x ∧ Below w.heap.size w w' := by
  obtain ⟨b, rfl, hb⟩ := one_arg h
  have hb' : b = x := by
    rw [← hb, fnan_cb] at hn
    rw [← hb, cb_num hn]
  subst hb'
  exact ⟨.int .u32 b, w, rfl, rfl, Below.refl _ _⟩
theorem ext_bits64 {P : Program} (vs : Array Value) (w : World) {x : Nat} (hn : fnan .f64 x = false) (h : vs.toList.map cn = [.float .f64 x]) : ∃ v w', (Extern.MathFloatBits.float64bits vs).run P w = .ok v w' ∧ cn v = .int .u64 x ∧ Below w.heap.size w w' := by
  obtain ⟨b, rfl, hb⟩ := one_arg h
  have hb' : b = x := by
    rw [← hb, fnan_cb] at hn
    rw [← hb, cb_num hn]
  subst hb'
  exact ⟨.int .u64 b, w, rfl, rfl, Below.refl _ _⟩
def neg64 (x : Nat) : Bool := icmp .lss (IntKind.i64.wrap (x : Int)) 0
theorem same_number {x y : Nat} (hx : Can .f32 x) (hy : Can .f32 y) (h : fnan .f32 x = false) (hn : fnan .f32 y = false) :
    (fcmp .eql .f32 x y && (neg64 (fconv .f32 .f64 x) == neg64 (fconv .f32 .f64 y))) = (x == y) := by
  cases he : fcmp .eql .f32 x y
  · symm
    rw [Bool.false_and, beq_eq_false_iff_ne]
    rintro rfl
    rw [feq_self, h] at he
    cases he
  · rw [Bool.true_and]
    obtain ⟨_, _, e | ⟨e1, e2⟩⟩ := (feq_iff hx hy).1 he
    · subst e; simp
    · rcases zero_words .f32 hx e1 with rfl | rfl <;> rcases zero_words .f32 hy e2 with rfl | rfl <;> decide
theorem fnan_up' {x : Nat} (h : fcmp .neq .f32 x x = false) : fnan .f64 (fconv .f32 .f64 x) = false := by
  rw [fne_self] at h
  rw [show fconv .f32 .f64 x = up x from rfl, fnan_up, h]
theorem szOf_fits2 {l : Int} {m : Nat} (h : 0 ≤ szOf l m) : (m : Int) ≤ l := by
  apply Classical.byContradiction
  intro g
  rw [szOf, if_pos (by omega)] at h
  omega
theorem beq_no_len {α : Type} [BEq α] [LawfulBEq α] {xs ys : List α} (h : xs.length ≠ ys.length) : (xs == ys) = false := by
  rw [beq_eq_false_iff_ne]; rintro rfl; exact h rfl
end Go.Proofs.Ytacjcomjnabmhaa
