/- Vectors: three numbers, their cells, sums and products. -/
import Derived.Test.YtacjcomjnabmhaaIn
import Derived.Test.YtacjcomjnabmhaaRoot
namespace Go.Proofs.Ytacjcomjnabmhaa
open Go.RowKit

abbrev V3 := Nat × Nat × Nat
def z3 : V3 := (0, 0, 0)
def vcs (v : V3) : List Value := [.float .f32 v.1, .float .f32 v.2.1, .float .f32 v.2.2]
def vv (v : V3) : Value := .agg #[.float .f32 v.1, .float .f32 v.2.1, .float .f32 v.2.2]
def vl : List V3 → List Value
  | [] => []
  | v :: vs => .float .f32 v.1 :: .float .f32 v.2.1 :: .float .f32 v.2.2 :: vl vs
theorem vl_length : ∀ vs : List V3, (vl vs).length = vs.length * 3
  | [] => rfl
  | v :: vs => by simp only [vl, List.length_cons, vl_length vs]; omega
theorem vl_scal : ∀ vs : List V3, (vl vs).all scal = true
  | [] => rfl
  | v :: vs => by simp only [vl, List.all_cons, vl_scal vs, scal, Bool.and_self]
theorem vl_append : ∀ us vs : List V3, vl us ++ vl vs = vl (us ++ vs)
  | [], vs => rfl
  | u :: us, vs => by simp only [vl, List.cons_append, vl_append us vs]
theorem vl_snoc (us : List V3) (v : V3) : vl us ++ [.float .f32 v.1, .float .f32 v.2.1, .float .f32 v.2.2] = vl (us ++ [v]) := vl_append us [v]
theorem vl_take : ∀ (vs : List V3) (k : Nat), k < vs.length → ((vl vs).drop (k * 3)).take 3 = vcs (vs.getD k z3)
  | [], _, h => by simp at h
  | v :: vs, 0, _ => rfl
  | v :: vs, k + 1, h => by
    have ih := vl_take vs k (by simpa using h)
    rw [show (k + 1) * 3 = k * 3 + 1 + 1 + 1 by omega]
    simpa [vl, List.getD] using ih
theorem vcs_scal (v : V3) : (vcs v).all scal = true := rfl
def vset (vs : List V3) (k : Nat) (v : V3) : List V3 := vs.set k v

section
variable {P : Program} {n : Nat} {w0 : World} {O : List Ent} {E : Env} {o : Oper}
theorem yq_loadV {t : TypeId} {x : Operand} {a : Option Addr} {k : Nat} {vs : List V3} {fs : Array Field} (ho : o.op = .load t x) (ht : P.underlying t = some (.struct fs)) (hz : (P.info? t).map (·.size) = some 3) (hx : E.opd x = some (.pointer (some (adr a (k * 3))))) (hs : Sees w0 O a (vl vs)) (hk : k < vs.length) :
    YQ P w0 O E o (vv (vs.getD k z3)) :=
  yq_loadS (cs := vcs (vs.getD k z3)) ho ht hz hx hs (vl_take vs k hk) rfl rfl
end

def add3 (a b : V3) : V3 := (fop .add .f32 a.1 b.1, fop .add .f32 a.2.1 b.2.1, fop .add .f32 a.2.2 b.2.2)
def sub3 (a b : V3) : V3 := (fop .sub .f32 a.1 b.1, fop .sub .f32 a.2.1 b.2.1, fop .sub .f32 a.2.2 b.2.2)
def scale3 (a : V3) (k : Nat) : V3 := (fop .mul .f32 a.1 k, fop .mul .f32 a.2.1 k, fop .mul .f32 a.2.2 k)
def inner3 (a b : V3) : Nat := fop .add .f32 (fop .add .f32 (fop .mul .f32 a.1 b.1) (fop .mul .f32 a.2.1 b.2.1)) (fop .mul .f32 a.2.2 b.2.2)
def cross3 (a b : V3) : V3 := (fop .sub .f32 (fop .mul .f32 a.2.1 b.2.2) (fop .mul .f32 a.2.2 b.2.1), fop .sub .f32 (fop .mul .f32 a.2.2 b.1) (fop .mul .f32 a.1 b.2.2), fop .sub .f32 (fop .mul .f32 a.1 b.2.1) (fop .mul .f32 a.2.1 b.1))
def long3 (a : V3) : Nat := sqrt32 (inner3 a a)
def fin3 (a : V3) : Bool := fin a.1 && fin a.2.1 && fin a.2.2
def Can3 (a : V3) : Prop := Can .f32 a.1 ∧ Can .f32 a.2.1 ∧ Can .f32 a.2.2
theorem can_add3 (a b : V3) : Can3 (add3 a b) := ⟨can_fop _ _ _ _, can_fop _ _ _ _, can_fop _ _ _ _⟩
theorem can_sub3 (a b : V3) : Can3 (sub3 a b) := ⟨can_fop _ _ _ _, can_fop _ _ _ _, can_fop _ _ _ _⟩
theorem can_scale3 (a : V3) (k : Nat) : Can3 (scale3 a k) := ⟨can_fop _ _ _ _, can_fop _ _ _ _, can_fop _ _ _ _⟩
theorem can_z3 : Can3 z3 := ⟨can_f0, can_f0, can_f0⟩
theorem fin3_t {a : V3} (h1 : fin a.1 = true) (h2 : fin a.2.1 = true) : fin a.2.2 = fin3 a := by unfold fin3; rw [h1, h2]; rfl
theorem fin3_f1 {a : V3} (h1 : fin a.1 = false) : false = fin3 a := by unfold fin3; rw [h1]; rfl
theorem fin3_f2 {a : V3} (h1 : fin a.1 = true) (h2 : fin a.2.1 = false) : false = fin3 a := by unfold fin3; rw [h1, h2]; rfl
def between3 (a b : V3) (k : Nat) : V3 := add3 a (scale3 (sub3 b a) k)
theorem can_between3 (a b : V3) (k : Nat) : Can3 (between3 a b k) := can_add3 _ _

/-! ### the field of a segment -/
def segX (a b p : V3) : Nat := fop .mul .f32 (long3 (sub3 p a)) (long3 (sub3 p b))
def segD (a b p : V3) : Nat := fop .mul .f32 (segX a b p) (fop .add .f32 (segX a b p) (inner3 (sub3 p a) (sub3 p b)))
def segQ (a b p : V3) : Nat := fop .quo .f32 (fop .add .f32 (long3 (sub3 p a)) (long3 (sub3 p b))) (segD a b p)
def segF (a b p : V3) : V3 := if fcmp .gtr .f32 (segD a b p) 0 && fin (segQ a b p) then scale3 (cross3 (sub3 p a) (sub3 p b)) (segQ a b p) else z3
theorem segF_no1 {a b p : V3} (h : fcmp .gtr .f32 (segD a b p) 0 = false) : segF a b p = z3 := by unfold segF; rw [h]; rfl
theorem segF_no2 {a b p : V3} (h : fcmp .gtr .f32 (segD a b p) 0 = true) (h2 : fin (segQ a b p) = false) : segF a b p = z3 := by unfold segF; rw [h, h2]; rfl
theorem segF_yes {a b p : V3} (h : fcmp .gtr .f32 (segD a b p) 0 = true) (h2 : fin (segQ a b p) = true) : segF a b p = scale3 (cross3 (sub3 p a) (sub3 p b)) (segQ a b p) := by unfold segF; rw [h, h2]; rfl
end Go.Proofs.Ytacjcomjnabmhaa
