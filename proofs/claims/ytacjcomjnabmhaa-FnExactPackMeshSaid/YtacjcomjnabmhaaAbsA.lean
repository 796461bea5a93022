/- The bits of a float, taken out and put back; the sign bit struck. -/
import Derived.Test.YtacjcomjnabmhaaExact
namespace Go.Proofs.Ytacjcomjnabmhaa
open Go.RowKit

section
variable {P : Program} {n : Nat} {w0 : World} {O : List Ent} {E : Env} {o : Oper}
theorem extN {args : Array Operand} {ts : Array TypeId} {f : FuncId} {us : List Value} {X : Type} {u : X → Value} {e : Array Value → Sem Value} (ho : o.op = .call ⟨.value (.func f), args, ts⟩) (hk : ExtF P f e) (hx : Opds E args.toList us)
    (h : ∀ (vs : Array Value) (w : World), vs.toList.map cn = us → ∃ x v w', (e vs).run P w = .ok v w' ∧ cn v = u x ∧ Below w.heap.size w w') : YN P w0 O E o u (fun _ => []) := by
  intro ρ w hE hw
  obtain ⟨fn, h1, h2, h3, h4, h5⟩ := hk
  have h2' : ¬ fn.name = "runtime.NumGoroutine" := by simpa using h2
  obtain ⟨x, v, w', g1, g2, g3⟩ := h (args.map ρ ++ #[]) w (args_map' ho hx hE)
  have hc : cn (ρ (.func f)) = .func (.func f) #[] #[] := hE.get (x := .func f) (by simp [ho, Op.operands, Call.operands]) rfl
  have hc' := cn_func hc
  have hr : (execOp ρ o).run P w = .ok (.value v) w' := by
    simp only [Array.append_empty] at g1
    simp [execOp, ho, resolve, hc', Deferred.ofValue, invoke, callFunc, program, Sem.run, h1, h2', h3, h4, h5, g1]
  rw [hr]
  exact ⟨x, g2, g3, (fun _ hf => by cases hf), List.Pairwise.nil⟩
theorem ext_bitsN {vs : Array Value} {w : World} {x : Nat} (h : vs.toList.map cn = [.float .f64 x]) : ∃ (b : {b : Nat // cb .f64 b = x}) (v : Value) (w' : World), (Extern.MathFloatBits.float64bits vs).run P w = .ok v w' ∧ cn v = .int .u64 (b.1 : Int) ∧ Below w.heap.size w w' := by
  obtain ⟨b, rfl, hb⟩ := one_arg h
  exact ⟨⟨b, hb⟩, .int .u64 b, w, rfl, rfl, Below.refl _ _⟩
theorem int_arg {vs : Array Value} {k : IntKind} {x : Int} (h : vs.toList.map cn = [.int k x]) : vs = #[.int k x] := by
  have hl : vs.toList.length = 1 := by have := congrArg List.length h; simpa using this
  obtain ⟨l⟩ := vs
  match l, hl with
  | [v], _ =>
    simp only [List.map_cons, List.map_nil, List.cons.injEq, and_true] at h
    rw [cn_int h]
theorem ext_from64 (vs : Array Value) (w : World) {x : Nat} (h : vs.toList.map cn = [.int .u64 (x : Int)]) : ∃ v w', (Extern.MathFloatBits.float64frombits vs).run P w = .ok v w' ∧ cn v = .float .f64 (cb .f64 x) ∧ Below w.heap.size w w' := by
  rw [int_arg h]
  exact ⟨.float .f64 x, w, rfl, rfl, Below.refl _ _⟩
theorem ext_from32 (vs : Array Value) (w : World) {x : Nat} (h : vs.toList.map cn = [.int .u32 (x : Int)]) : ∃ v w', (Extern.MathFloatBits.float32frombits vs).run P w = .ok v w' ∧ cn v = .float .f32 (cb .f32 x) ∧ Below w.heap.size w w' := by
  rw [int_arg h]
  exact ⟨.float .f32 x, w, rfl, rfl, Below.refl _ _⟩
theorem intBits_63 (x : Nat) : Op.intBits .andNot .u64 (x : Int) 9223372036854775808 = (pure (.int .u64 ((x % 9223372036854775808 : Nat) : Int)) : Sem Value) := by
  have h1 : BitVec.ofInt IntKind.u64.bits (x : Int) = BitVec.ofNat 64 x := by
    show BitVec.ofInt 64 (x : Int) = BitVec.ofNat 64 x
    exact BitVec.ofInt_natCast 64 x
  have h2 : ~~~ BitVec.ofInt IntKind.u64.bits 9223372036854775808 = BitVec.ofNat 64 (2 ^ 63 - 1) := by
    show ~~~ BitVec.ofInt 64 9223372036854775808 = BitVec.ofNat 64 (2 ^ 63 - 1)
    decide
  unfold Op.intBits
  simp only [h1, h2]
  congr 2
  have h3 : (BitVec.ofNat 64 x &&& BitVec.ofNat 64 (2 ^ 63 - 1)).toNat = x % 2 ^ 63 := by
    rw [BitVec.toNat_and, BitVec.toNat_ofNat, BitVec.toNat_ofNat]
    have : (2 ^ 63 - 1) % 2 ^ 64 = 2 ^ 63 - 1 := by decide
    rw [this, Nat.and_two_pow_sub_one_eq_mod]
    omega
  change IntKind.u64.wrap ((BitVec.ofNat 64 x &&& BitVec.ofNat 64 (2 ^ 63 - 1)).toNat : Int) = _
  rw [h3]
  have : x % 2 ^ 63 < 2 ^ 63 := Nat.mod_lt _ (by decide)
  have h4 : IntKind.u64.wrap ((x % 2 ^ 63 : Nat) : Int) = ((x % 2 ^ 63 : Nat) : Int) := IntWalk.u64_in _ (by omega)
  rw [h4]
theorem yr_andNot63 {t ty : TypeId} {x y : Operand} {a : Nat} (ho : o.op = .binOp .andNot t x y ty) (hx : E.opd x = some (.int .u64 (a : Int))) (hy : E.opd y = some (.int .u64 9223372036854775808)) : YR P E o (.int .u64 ((a % 9223372036854775808 : Nat) : Int)) := yr_of fun ρ w hE => by
  have h1 := cn_int (hE.get (x := x) (by simp [ho, Op.operands]) hx)
  have h2 := cn_int (hE.get (x := y) (by simp [ho, Op.operands]) hy)
  exact ⟨.int .u64 ((a % 9223372036854775808 : Nat) : Int), by simp [execOp, ho, h1, h2, eqGuard, binOp, intBits_63], rfl⟩
end

end Go.Proofs.Ytacjcomjnabmhaa
