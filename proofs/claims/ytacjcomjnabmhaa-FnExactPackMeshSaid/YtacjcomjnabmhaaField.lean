/- The field of wires: segments, sums. -/
import Derived.Test.YtacjcomjnabmhaaWire
namespace Go.Proofs.Ytacjcomjnabmhaa
open Go.RowKit

def sl : List (V3 × V3) → List Value
  | [] => []
  | s :: ss => .float .f32 s.1.1 :: .float .f32 s.1.2.1 :: .float .f32 s.1.2.2 :: .float .f32 s.2.1 :: .float .f32 s.2.2.1 :: .float .f32 s.2.2.2 :: sl ss
theorem sl_length : ∀ ss : List (V3 × V3), (sl ss).length = ss.length * 6
  | [] => rfl
  | s :: ss => by simp only [sl, List.length_cons, sl_length ss]; omega
theorem sl_scal : ∀ ss : List (V3 × V3), (sl ss).all scal = true
  | [] => rfl
  | s :: ss => by simp only [sl, List.all_cons, sl_scal ss, scal, Bool.and_self]
theorem sl_append : ∀ us vs : List (V3 × V3), sl us ++ sl vs = sl (us ++ vs)
  | [], vs => rfl
  | u :: us, vs => by simp only [sl, List.cons_append, sl_append us vs]
theorem sl_take : ∀ (ss : List (V3 × V3)) (k : Nat), k < ss.length → ((sl ss).drop (k * 6)).take 6 = sl [ss.getD k (z3, z3)]
  | [], _, h => by simp at h
  | s :: ss, 0, _ => rfl
  | s :: ss, k + 1, h => by
    have ih := sl_take ss k (by simpa using h)
    rw [show (k + 1) * 6 = k * 6 + 1 + 1 + 1 + 1 + 1 + 1 by omega]
    simpa [sl, List.getD] using ih
def segK (w : Wr) (k : Nat) : List (V3 × V3) := (List.range k).map fun i => (segA w i, segB w i)
theorem segK_length (w : Wr) (k : Nat) : (segK w k).length = k := by simp [segK]
theorem segK_snoc (w : Wr) (k : Nat) : sl (segK w k) ++ sl [(segA w k, segB w k)] = sl (segK w (k + 1)) := by
  rw [sl_append]; simp [segK, List.range_succ]
theorem segK_get (w : Wr) {k m : Nat} (h : k < m) : (segK w m).getD k (z3, z3) = (segA w k, segB w k) := by simp [segK, List.getD, h]
theorem segB_in {w : Wr} {i : Nat} (h : i + 1 < w.1.length) : segB w i = w.1.getD (i + 1) z3 := by unfold segB; rw [Nat.mod_eq_of_lt h]
theorem segB_end {w : Wr} {i : Nat} (h : i + 1 = w.1.length) : segB w i = w.1.getD 0 z3 := by unfold segB; rw [h, Nat.mod_self]
theorem tmod_nat (i n : Nat) : ((i : Int) + 1).tmod (n : Int) = (((i + 1) % n : Nat) : Int) := by
  rw [show ((i : Int) + 1) = ((i + 1 : Nat) : Int) by omega]
  exact (Int.ofNat_tmod _ _).symm
section
variable {P : Program} {n : Nat} {w0 : World} {O : List Ent} {E : Env} {o : Oper}
theorem yq_loadG {t : TypeId} {x : Operand} {a : Option Addr} {k : Nat} {w : Wr} {m : Nat} {fs : Array Field} (ho : o.op = .load t x) (ht : P.underlying t = some (.struct fs)) (hz : (P.info? t).map (·.size) = some 6) (hx : E.opd x = some (.pointer (some (adr a (k * 6))))) (hs : Sees w0 O a (sl (segK w m))) (hk : k < m) :
    YQ P w0 O E o (.agg #[.float .f32 (segA w k).1, .float .f32 (segA w k).2.1, .float .f32 (segA w k).2.2, .float .f32 (segB w k).1, .float .f32 (segB w k).2.1, .float .f32 (segB w k).2.2]) := by
  have h := sl_take (segK w m) k (by rw [segK_length]; exact hk)
  rw [segK_get w hk] at h
  exact yq_loadS ho ht hz hx hs h rfl rfl
end
def ifV (v : V3) : V3 := if fin3 v then v else z3
theorem ifV_yes {v : V3} (h : fin3 v = true) : v = ifV v := by unfold ifV; rw [h]; rfl
theorem ifV_no {v : V3} (h : fin3 v = false) : z3 = ifV v := by unfold ifV; rw [h]; rfl
theorem wire_len {ws : List Wr} (h : wiresOk ws = true) {k : Nat} (hk : k < ws.length) : 2 ≤ (ws.getD k zw).1.length ∧ (ws.getD k zw).1.length ≤ 48 := by
  unfold wiresOk at h
  rw [Bool.and_eq_true] at h
  have := wire_is (wall_getD.1 h.2 k hk)
  exact ⟨this.1, this.2.1⟩
theorem wires_len {ws : List Wr} (h : wiresOk ws = true) : ws.length ≤ 8 := by
  unfold wiresOk at h
  rw [Bool.and_eq_true, decide_eq_true_eq] at h
  exact h.1
theorem segN_le {w : Wr} : segN w ≤ w.1.length := by unfold segN; split <;> omega
end Go.Proofs.Ytacjcomjnabmhaa
