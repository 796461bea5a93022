/- Whole numbers between two others, the lesser of two, quotients. -/
import Derived.Test.YtacjcomjnabmhaaDraw
import Derived.Test.YtacjcomjnabmhaaFlo
namespace Go.Proofs.Ytacjcomjnabmhaa
open Go.RowKit

section
variable {P : Program} {E : Env} {o : Oper}
theorem yr_minI {x y : Operand} {t s : TypeId} {k : IntKind} {a b : Int} (ho : o.op = .call ⟨.builtin .min, #[x, y], #[t, s]⟩) (hx : E.opd x = some (.int k a)) (hy : E.opd y = some (.int k b)) : YR P E o (.int k (min a b)) := yr_of fun ρ w hE => by
  have h1 := cn_int (hE.get (x := x) (by simp [ho, Op.operands, Call.operands]) hx)
  have h2 := cn_int (hE.get (x := y) (by simp [ho, Op.operands, Call.operands]) hy)
  have e : (if b < a then b else a) = min a b := by rw [Int.min_def]; split <;> split <;> omega
  exact ⟨.int k (min a b), by simp [execOp, ho, h1, h2, resolve, invoke, builtin, Builtin.min_, Builtin.min2, e], rfl⟩
end

theorem wrap_quo {a b : Int} (h : 0 ≤ a ∧ a ≤ 9223372036854775807 ∧ 0 < b) : IntKind.i64.wrap (a.tdiv b) = a.tdiv b := by
  obtain ⟨h1, h2, h3⟩ := h
  have e : a.tdiv b = a / b := Int.tdiv_eq_ediv_of_nonneg h1
  have e1 : 0 ≤ a / b := Int.ediv_nonneg h1 (by omega)
  have e2 : a / b ≤ a := Int.ediv_le_self b h1
  rw [e]
  exact wrap_in (by omega)
theorem in_t {n lo hi : Int} (h : lo ≤ n) : icmp .leq n hi = decide (lo ≤ n ∧ n ≤ hi) := by
  rw [Bool.eq_iff_iff, decide_eq_true_eq]
  constructor
  · intro h; have := ic_leq h; omega
  · rintro ⟨_, h⟩; exact decide_eq_true h
theorem in_f {n lo hi : Int} (h : n < lo) : false = decide (lo ≤ n ∧ n ≤ hi) := by
  symm; rw [decide_eq_false_iff_not]; omega
theorem can_f0 : Can .f32 0 := ⟨by decide, by decide⟩
end Go.Proofs.Ytacjcomjnabmhaa
