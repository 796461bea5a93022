/- Own texts of this claim, merged: Design, Bits, Exact, Draw, In, Root, Vec, Wire, Field, Flat, Line, FinA, PackA, Slice, Bytes, Mesh, PackB, PackC, Sharp, SharpB, SharpC, AbsA, Text, Unp, Narrow, UnpB, UnpC, UnpD, UnpE, UnpF, UnpG, MaxF, Rnd, R8, WBase, WFl, WSteps, WSolve, Chol, WChol, WIn, WVec, Fill, WR8, Square, Ridge, Block, Lim, Own, Sign, Drop, Dy, Rt, WDd, WRows, WWire, WWLaw, WField, WMeshB. -/
import Derived.Laws.BytesString
import Derived.Test.YtmecikeaogjmpaaDoorProg
import Derived.KernelRfl
import Derived.Deep.Slices
import Derived.Test.YtmecikeaogjmpaaDoorKFnJournal1
namespace Go.Proofs.YtmecikeaogjmpaaDoor
open Go.RowKit

/-! ### the first index of which something holds -/
/-! ### what is valid -/
def ValidP (xss : List (List Nat)) (ws gs : List Nat) : Prop :=
  1 ≤ xss.length ∧ xss.length ≤ 48 ∧ gs.length = xss.length ∧ ws.length = xss.length ∧ ws.all fin = true ∧
  (∀ i, i < xss.length → (xss.getD i []).length = (xss.getD 0 []).length ∧ (xss.getD i []).all fin = true ∧ least (gs.getD i 0) = true) ∧ 1 ≤ (xss.getD 0 []).length ∧ (xss.getD 0 []).length ≤ 8
noncomputable def validD (xss : List (List Nat)) (ws gs : List Nat) : Bool := @decide (ValidP xss ws gs) (Classical.propDecidable _)
section
variable {P : Program} {n : Nat} {w0 : World} {O : List Ent} {E : Env} {o : Oper}
end
end Go.Proofs.YtmecikeaogjmpaaDoor


namespace Go.Proofs.YtmecikeaogjmpaaDoor
open Go.RowKit

theorem ext_bits32 {P : Program} (vs : Array Value) (w : World) {x : Nat} (hn : fnan .f32 x = false) (h : vs.toList.map cn = [.float .f32 x]) : ∃ v w', (Extern.MathFloatBits.float32bits vs).run P w = .ok v w' ∧ cn v = .int .u32 x ∧ Below w.heap.size w w' := by
  obtain ⟨b, rfl, hb⟩ := one_arg h
  have hb' : b = x := by
    rw [← hb, fnan_cb] at hn
    rw [← hb, cb_num hn]
  subst hb'
  exact ⟨.int .u32 b, w, rfl, rfl, Below.refl _ _⟩
end Go.Proofs.YtmecikeaogjmpaaDoor


namespace Go.Proofs.YtmecikeaogjmpaaDoor
open Go.RowKit

/-- The absolute value: without the sign. -/
def fabs (k : FloatKind) (x : Nat) : Nat := if fnan k x then qn k else x % k.format.signWeight
theorem fnan_rng (k : FloatKind) (x : Nat) : fnan k x = decide (k.format.infRung < rng k.format x) := by
  cases h : fnan k x
  · have := rng_le h
    symm; exact decide_eq_false (by omega)
  · symm
    apply decide_eq_true
    apply Classical.byContradiction
    intro hn
    rcases Nat.lt_or_ge (rng k.format x) k.format.infRung with h1 | h1
    · obtain ⟨m, e, h2, _⟩ := read_number k.format h1
      unfold fnan FloatKind.decode at h
      rw [h2] at h
      cases h
    · have h2 := read_inf k (x := x) (by omega)
      unfold fnan FloatKind.decode at h
      rw [h2] at h
      cases h
end Go.Proofs.YtmecikeaogjmpaaDoor


namespace Go.Proofs.YtmecikeaogjmpaaDoor
open Go.RowKit
namespace Dr

/-- What an operation makes whatever is there: by its place in the region. -/
abbrev Tab := List (Nat × ((Nat → Value) × (Nat → Ent)))
def Tab.get : Tab → Nat → (Nat → Value) × (Nat → Ent)
  | [], _ => (fun _ => undef, fun _ => ⟨none, [], 0, 0⟩)
  | (j, p) :: l, i => match Nat.beq j i with | true => p | false => Tab.get l i

section
variable {P : Program} {n : Nat} {w0 : World} {O R : List Ent} {T : Tab} {E : Env} {ops : Array Oper}

/-- Something new is made, whatever is there. -/
def YA (P : Program) (E : Env) (o : Oper) (u : Nat → Value) (e : Nat → Ent) : Prop :=
  ∀ ρ w, Ev E o.op ρ → ResOk P (fun v w' => ∃ b, cn v = u b ∧ Below w.heap.size w w' ∧ Ent.at w.heap.size w' (e b)) ((execOp ρ o).run P w)
theorem YA.of {o : Oper} {u : Nat → Value} {e : Nat → Ent} (h : ∀ w0, YN P w0 [] E o u (fun b => [e b])) : YA P E o u e := by
  intro ρ w hE
  refine (h w ρ w hE (Hp.refl w)).mono fun v w' ⟨b, h1, h2, h3, _⟩ => ⟨b, h1, h2, h3 _ List.mem_cons_self⟩
theorem YA.weaken {E' : Env} {o : Oper} {u : Nat → Value} {e : Nat → Ent} (h : YA P E o u e) (hE : ∀ x ∈ o.op.operands, E'.opd x = E.opd x) : YA P E' o u e :=
  fun ρ w hρ => h ρ w (fun x hx u hu => hρ x hx u (by rw [hE x hx]; exact hu))

/-- What an operation does: a value and what is owned then, for some x. -/
inductive Eff (P : Program) (w0 : World) (ops : Array Oper) (R : List Ent) : Kd → Oper → Env → List Ent → (X : Type) → (X → Value) → (X → List Ent) → Prop
  | skip {k : Kd} {o : Oper} {E : Env} {O : List Ent} : Guard ops E o false → Eff P w0 ops R k o E O Unit (fun _ => undef) (fun _ => O)
  | quiet {o : Oper} {E : Env} {O : List Ent} {u : Value} : Guard ops E o true → YQ P w0 (O ++ R) E o u → Eff P w0 ops R 0 o E O Unit (fun _ => u) (fun _ => O)
  | quietR {o : Oper} {E : Env} {O : List Ent} {u : Value} : Guard ops E o true → YQ P w0 R E o u → Eff P w0 ops R 5 o E O Unit (fun _ => u) (fun _ => O)
  | make {o : Oper} {E : Env} {O : List Ent} {X : Type} {u : X → Value} {N : X → List Ent} : Guard ops E o true → YN P w0 (O ++ R) E o u N → Eff P w0 ops R 1 o E O X u (fun x => N x ++ O)
  | turn {o : Oper} {E : Env} {O : List Ent} {X : Type} {u : X → Value} {O' : X → List Ent} : Guard ops E o true → YC P w0 (O ++ R) E o u (fun x => O' x ++ R) → Eff P w0 ops R 3 o E O X u O'

/-- One operation, and K behind it. -/
def Stp (P : Program) (n : Nat) (w0 : World) (ops : Array Oper) (T : Tab) (k : Kd) (i : Nat) (o : Oper) (E : Env) (O R : List Ent) (K : Env → List Ent → List Ent → Prop) : Prop :=
  if k = 2 then o.guard = none ∧ DOk n o ∧ YA P E o (T.get i).1 (T.get i).2 ∧ ∀ b, K (putE E o.dst ((T.get i).1 b)) ((T.get i).2 b :: O) R
  else if k = 4 then ∃ (X : Type) (u : X → Value) (O' : X → List Ent), Nonempty X ∧ Guard ops E o true ∧ YC P w0 (O ++ R) E o u O' ∧ DOk n o ∧ ∀ x, K (putE E o.dst (u x)) (O' x) []
  else ∃ (X : Type) (u : X → Value) (O' : X → List Ent), Nonempty X ∧ Eff P w0 ops R k o E O X u O' ∧ DOk n o ∧ ∀ x, K (putE E o.dst (u x)) (O' x) R

/-- The walk: the operations of π in this order. -/
def SW (P : Program) (n : Nat) (w0 : World) (ops : Array Oper) (T : Tab) (K : Env → List Ent → List Ent → Prop) : List (Nat × Kd) → Env → List Ent → List Ent → Prop
  | [], E, O, R => K E O R
  | (i, k) :: π, E, O, R => ∃ o, ops[i]? = some o ∧ Stp P n w0 ops T k i o E O R (SW P n w0 ops T K π)

/-- K does not look at the order of what is known. -/
def Lax3 (w0 : World) (K : Env → List Ent → List Ent → Prop) : Prop :=
  ∀ E E' O O' R, (∀ t, E'.get t = E.get t) → (∀ F w, Hp w0 (F ++ O') w → Hp w0 (F ++ O) w) → K E O R → K E' O' R

theorem frame {O' : List Ent} (h : ∀ F w, Hp w0 (F ++ O') w → Hp w0 (F ++ O) w) : ∀ F w, Hp w0 (F ++ (O' ++ R)) w → Hp w0 (F ++ (O ++ R)) w := by
  intro F w hw
  have h1 : (F ++ (O' ++ R)).Perm ((F ++ R) ++ O') := by
    rw [List.append_assoc]
    exact List.Perm.append_left F List.perm_append_comm
  have h2 : ((F ++ R) ++ O).Perm (F ++ (O ++ R)) := by
    rw [List.append_assoc]
    exact List.Perm.append_left F List.perm_append_comm
  exact (h (F ++ R) w (hw.perm' h1)).perm' h2

/-- The effect, seen from what says the same. -/
theorem Eff.lax {E' : Env} {O' : List Ent} {k : Kd} {o : Oper} {X : Type} {u : X → Value} {S : X → List Ent} (hE : ∀ t, E'.get t = E.get t) (hO : ∀ F w, Hp w0 (F ++ O') w → Hp w0 (F ++ O) w) (h : Eff P w0 ops R k o E O X u S) :
    ∃ S', Eff P w0 ops R k o E' O' X u S' ∧ ∀ x F w, Hp w0 (F ++ S' x) w → Hp w0 (F ++ S x) w := by
  have hop := opd_same hE
  cases h with
  | skip hg => exact ⟨_, .skip (hg.same fun t _ => hE t), fun _ => hO⟩
  | quiet hg h => exact ⟨_, .quiet (hg.same fun t _ => hE t) (h.weaken (fun x _ => hop x) (hp_nil (frame hO))), fun _ => hO⟩
  | quietR hg h => exact ⟨_, .quietR (hg.same fun t _ => hE t) (h.weaken (fun x _ => hop x) (fun _ h => h)), fun _ => hO⟩
  | make hg h => exact ⟨_, .make (hg.same fun t _ => hE t) (h.weaken (fun x _ => hop x) (hp_nil (frame hO))), fun x => Hp.perm hO⟩
  | turn hg h => exact ⟨_, .turn (hg.same fun t _ => hE t) (fun ρ w F hρ hw => h ρ w F (fun x hx u hu => hρ x hx u (by rw [hop x]; exact hu)) (frame hO F w hw)), fun _ _ _ h => h⟩

theorem Stp.lax {k : Kd} {i : Nat} {o : Oper} {K : Env → List Ent → List Ent → Prop} (hK : Lax3 w0 K) : Lax3 w0 (fun E O R => Stp P n w0 ops T k i o E O R K) := by
  intro E E' O O' R hE hO h
  simp only [Stp] at h ⊢
  split at h
  · rename_i hk
    rw [if_pos hk]
    exact ⟨h.1, h.2.1, h.2.2.1.weaken (fun x _ => opd_same hE x), fun b => hK _ _ _ _ _ (put_congr hE _ _) (fun F w => by simpa using Hp.perm (N := [(T.get i).2 b]) hO F w) (h.2.2.2 b)⟩
  · rename_i hk
    rw [if_neg hk]
    split at h
    · rename_i hk4
      rw [if_pos hk4]
      obtain ⟨X, u, S, h0, hg, h1, h2, h3⟩ := h
      exact ⟨X, u, S, h0, hg.same fun t _ => hE t, fun ρ w F hρ hw => h1 ρ w F (fun x hx u hu => hρ x hx u (by rw [opd_same hE x]; exact hu)) (frame hO F w hw), h2, fun x => hK _ _ _ _ _ (put_congr hE _ _) (fun _ _ h => h) (h3 x)⟩
    · rename_i hk4
      rw [if_neg hk4]
      obtain ⟨X, u, S, h0, h1, h2, h3⟩ := h
      obtain ⟨S', h4, h5⟩ := h1.lax hE hO
      exact ⟨X, u, S', h0, h4, h2, fun x => hK _ _ _ _ _ (put_congr hE _ _) (h5 x) (h3 x)⟩

theorem SW.lax {K : Env → List Ent → List Ent → Prop} (hK : Lax3 w0 K) : ∀ π, Lax3 w0 (SW P n w0 ops T K π)
  | [] => hK
  | (i, k) :: π => by
    intro E E' O O' R hE hO ⟨o, ho, h⟩
    exact ⟨o, ho, Stp.lax (SW.lax hK π) _ _ _ _ _ hE hO h⟩

/-- p is walked before q; may q be carried out before p? -/
def swapOk (ops : Array Oper) (kp kq : Kd) (p q : Oper) : Bool :=
  (match p.dst with | some d => !(q.looksAt ops).contains d && q.dst != some d | none => true) &&
  (match q.dst with | some d => !(p.looksAt ops).contains d | none => true) &&
  ((kp == 0 && (kq == 0 || kq == 1 || kq == 5)) || (kp == 5 && (kq == 0 || kq == 1 || kq == 3 || kq == 5)) || (kq == 2 && kp != 4))

theorem Eff.put {k : Kd} {o : Oper} {d : Option Nat} {u : Value} {X : Type} {v : X → Value} {S : X → List Ent} (h : ∀ x, d = some x → (o.looksAt ops).contains x = false) :
    Eff P w0 ops R k o (putE E d u) O X v S ↔ Eff P w0 ops R k o E O X v S := by
  constructor
  · intro he
    cases he with
    | skip hg => exact .skip ((guard_put h).1 hg)
    | quiet hg hy => exact .quiet ((guard_put h).1 hg) (hy.weaken (fun x hx => (opd_put h u x hx).symm) fun _ h => h)
    | quietR hg hy => exact .quietR ((guard_put h).1 hg) (hy.weaken (fun x hx => (opd_put h u x hx).symm) fun _ h => h)
    | make hg hy => exact .make ((guard_put h).1 hg) (hy.weaken (fun x hx => (opd_put h u x hx).symm) fun _ h => h)
    | turn hg hy => exact .turn ((guard_put h).1 hg) (fun ρ w F hρ hw => hy ρ w F (fun x hx v hv => hρ x hx v (by rw [← opd_put h u x hx]; exact hv)) hw)
  · intro he
    cases he with
    | skip hg => exact .skip ((guard_put h).2 hg)
    | quiet hg hy => exact .quiet ((guard_put h).2 hg) (hy.weaken (fun x hx => opd_put h u x hx) fun _ h => h)
    | quietR hg hy => exact .quietR ((guard_put h).2 hg) (hy.weaken (fun x hx => opd_put h u x hx) fun _ h => h)
    | make hg hy => exact .make ((guard_put h).2 hg) (hy.weaken (fun x hx => opd_put h u x hx) fun _ h => h)
    | turn hg hy => exact .turn ((guard_put h).2 hg) (fun ρ w F hρ hw => hy ρ w F (fun x hx v hv => hρ x hx v (by rw [opd_put h u x hx]; exact hv)) hw)

/-- .. with one entry more -/
theorem Eff.beside {k : Kd} {o : Oper} {e : Ent} {X : Type} {v : X → Value} {S : X → List Ent} (he : Eff P w0 ops R k o E O X v S) :
    ∃ S', Eff P w0 ops R k o E (e :: O) X v S' ∧ ∀ x F w, Hp w0 (F ++ S' x) w → Hp w0 (F ++ (e :: S x)) w := by
  have hsub : ∀ w, Hp w0 (e :: O ++ R) w → Hp w0 (O ++ R) w := fun w h => h.sub (List.sublist_cons_self e (O ++ R))
  cases he with
  | skip hg => exact ⟨_, .skip hg, fun _ _ _ h => h⟩
  | quiet hg hy => exact ⟨_, .quiet hg (hy.weaken (fun _ _ => rfl) hsub), fun _ _ _ h => h⟩
  | quietR hg hy => exact ⟨_, .quietR hg hy, fun _ _ _ h => h⟩
  | make hg hy =>
    exact ⟨_, .make hg (hy.weaken (fun _ _ => rfl) hsub), fun x F w h => swap_hp (N := _) (M := [e]) F w h⟩
  | turn hg hy =>
    refine ⟨fun x => e :: S x, .turn hg fun ρ w F hρ hw => ?_, fun _ _ _ h => h⟩
    have := hy ρ w (F ++ [e]) hρ (by simpa using hw)
    refine this.mono fun v w' ⟨x, h1, h2⟩ => ⟨x, h1, by simpa using h2⟩

theorem Stp.swap {kp kq : Kd} {ip iq : Nat} {p q : Oper} {K : Env → List Ent → List Ent → Prop} (hK : Lax3 w0 K) (hs : swapOk ops kp kq p q = true)
    (h : Stp P n w0 ops T kp ip p E O R (fun E O R => Stp P n w0 ops T kq iq q E O R K)) : Stp P n w0 ops T kq iq q E O R (fun E O R => Stp P n w0 ops T kp ip p E O R K) := by
  simp only [swapOk, Bool.and_eq_true, Bool.or_eq_true, beq_iff_eq, bne_iff_ne, ne_eq] at hs
  obtain ⟨⟨hs1, hs2⟩, hs3⟩ := hs
  have d1 : ∀ d, p.dst = some d → (q.looksAt ops).contains d = false := fun d hd => by rw [hd] at hs1; simpa using (Bool.and_eq_true_iff.1 hs1).1
  have d2 : ∀ d, p.dst = some d → q.dst ≠ some d := fun d hd => by rw [hd] at hs1; simpa using (Bool.and_eq_true_iff.1 hs1).2
  have d3 : ∀ d, q.dst = some d → (p.looksAt ops).contains d = false := fun d hd => by rw [hd] at hs2; simpa using hs2
  have hid : ∀ (O : List Ent) (F : List Ent) (w : World), Hp w0 (F ++ O) w → Hp w0 (F ++ O) w := fun _ _ _ h => h
  have hp4 : ¬ kp = 4 := by
    rcases hs3 with (⟨h1, _⟩ | ⟨h1, _⟩) | ⟨_, h2⟩
    · rw [h1]; decide
    · rw [h1]; decide
    · exact h2
  by_cases hq : kq = 2
  · subst hq
    simp only [Stp, if_true, if_neg hp4] at h ⊢
    split at h
    · rename_i hp
      have h0 := (h.2.2.2 0)
      refine ⟨h0.1, h0.2.1, h0.2.2.1.weaken (fun x hx => (opd_put d1 _ x hx).symm), fun b => ?_⟩
      rw [if_pos hp]
      refine ⟨h.1, h.2.1, h.2.2.1.weaken (fun x hx => opd_put d3 _ x hx), fun c => ?_⟩
      have h3 := (h.2.2.2 c).2.2.2 b
      refine hK _ _ _ _ _ (fun t => (put_swap d2 _ _ E t).symm) (fun F w hw => ?_) h3
      have := swap_hp (N := [(T.get ip).2 c]) (M := [(T.get iq).2 b]) (O := O) F w (by simpa using hw)
      simpa using this
    · rename_i hp
      obtain ⟨X, u, S, ⟨x0⟩, h1, h2, h3⟩ := h
      have h0 := h3 x0
      refine ⟨h0.1, h0.2.1, h0.2.2.1.weaken (fun x hx => (opd_put d1 _ x hx).symm), fun b => ?_⟩
      rw [if_neg hp]
      obtain ⟨S', h4, h5⟩ := h1.beside (e := (T.get iq).2 b)
      refine ⟨X, u, S', ⟨x0⟩, (Eff.put d3).2 h4, h2, fun x => ?_⟩
      exact hK _ _ _ _ _ (fun t => (put_swap d2 _ _ E t).symm) (h5 x) ((h3 x).2.2.2 b)
  · have h0 : (kp = 0 ∧ (kq = 0 ∨ kq = 1 ∨ kq = 5)) ∨ (kp = 5 ∧ (kq = 0 ∨ kq = 1 ∨ kq = 3 ∨ kq = 5)) := by
      rcases hs3 with (⟨h1, (h2 | h2) | h2⟩ | ⟨h1, ((h2 | h2) | h2) | h2⟩) | h2
      · exact .inl ⟨h1, .inl h2⟩
      · exact .inl ⟨h1, .inr (.inl h2)⟩
      · exact .inl ⟨h1, .inr (.inr h2)⟩
      · exact .inr ⟨h1, .inl h2⟩
      · exact .inr ⟨h1, .inr (.inl h2)⟩
      · exact .inr ⟨h1, .inr (.inr (.inl h2))⟩
      · exact .inr ⟨h1, .inr (.inr (.inr h2))⟩
      · exact absurd h2.1 hq
    have hp2 : ¬ kp = 2 := by rcases h0 with ⟨h, _⟩ | ⟨h, _⟩ <;> rw [h] <;> decide
    have hq4 : ¬ kq = 4 := by rcases h0 with ⟨_, h | h | h⟩ | ⟨_, h | h | h | h⟩ <;> rw [h] <;> decide
    simp only [Stp, if_neg hq, if_neg hp2, if_neg hp4, if_neg hq4] at h ⊢
    obtain ⟨X, u, S0, hX, h1, h2, h3⟩ := h
    -- the first is quiet, or does not come to its turn
    obtain ⟨u0, hu0, hp⟩ : ∃ u0, (∃ Y v S, Nonempty Y ∧ Eff P w0 ops R kq q (putE E p.dst u0) O Y v S ∧ DOk n q ∧ ∀ y, K (putE (putE E p.dst u0) q.dst (v y)) (S y) R) ∧
        ∀ E' O', (∀ x ∈ p.op.operands, E'.opd x = E.opd x) → (∀ g, Guard ops E p g → Guard ops E' p g) → (kp = 0 → ∀ w, Hp w0 (O' ++ R) w → Hp w0 (O ++ R) w) → Eff P w0 ops R kp p E' O' Unit (fun _ => u0) (fun _ => O') := by
      rcases h0 with ⟨rfl, _⟩ | ⟨rfl, _⟩
      · cases h1 with
        | skip hg => exact ⟨undef, h3 (), fun E' O' _ hg' _ => .skip (hg' _ hg)⟩
        | quiet hg hy => exact ⟨_, h3 (), fun E' O' hE hg' hO => .quiet (hg' _ hg) (hy.weaken hE (hO rfl))⟩
      · cases h1 with
        | skip hg => exact ⟨undef, h3 (), fun E' O' _ hg' _ => .skip (hg' _ hg)⟩
        | quietR hg hy => exact ⟨_, h3 (), fun E' O' hE hg' _ => .quietR (hg' _ hg) (hy.weaken hE fun _ h => h)⟩
    obtain ⟨Y, v, S, g0, g1, g2, g3⟩ := hu0
    have g1' := (Eff.put d1).1 g1
    refine ⟨Y, v, S, g0, g1', g2, fun y => ?_⟩
    have hsub : kp = 0 → ∀ w, Hp w0 (S y ++ R) w → Hp w0 (O ++ R) w := fun hk0 => by
      have hk : kq = 0 ∨ kq = 1 ∨ kq = 5 := by
        rcases h0 with ⟨_, h⟩ | ⟨h, _⟩
        · exact h
        · rw [hk0] at h; exact absurd h (by decide)
      cases g1' with
      | skip _ => exact fun _ h => h
      | quiet _ _ => exact fun _ h => h
      | quietR _ _ => exact fun _ h => h
      | make _ _ => exact fun w h => h.sub (by rw [List.append_assoc]; exact List.sublist_append_right _ _)
      | turn _ _ => rcases hk with h | h | h <;> exact absurd h (by decide)
    exact ⟨Unit, fun _ => u0, fun _ => S y, ⟨()⟩, hp _ _ (opd_put d3 _) (fun g hg => (guard_put d3).2 hg) hsub, h2, fun _ => hK _ _ _ _ _ (fun t => (put_swap d2 _ _ E t).symm) (hid _) (g3 y)⟩

/-! ### the order that is drawn -/
/-- Of any two that are walked in this order the second waits for the first, directly, or they may change places. -/
def pairsOk (ops : Array Oper) : List (Nat × Kd) → Bool
  | [] => true
  | (i, k) :: π => (π.all fun (j, kj) => match ops[i]?, ops[j]? with
    | some p, some q => Go.Proofs.YtmecikeaogjmpaaDoor.pairsOk.reach ops j i || swapOk ops k kj p q
    | _, _ => false) && pairsOk ops π

theorem pairsOk_mid {i : Nat} {k : Kd} : ∀ (A B : List (Nat × Kd)), pairsOk ops (A ++ (i, k) :: B) = true →
    (∀ j kj, (j, kj) ∈ A → ∃ p q, ops[j]? = some p ∧ ops[i]? = some q ∧ (Go.Proofs.YtmecikeaogjmpaaDoor.pairsOk.reach ops i j = true ∨ swapOk ops kj k p q = true)) ∧ pairsOk ops (A ++ B) = true
  | [], B, h => by
    simp only [List.nil_append, pairsOk, Bool.and_eq_true] at h
    exact ⟨fun _ _ h => by (cases h), h.2⟩
  | (j, kj) :: A, B, h => by
    simp only [List.cons_append, pairsOk, Bool.and_eq_true, List.all_eq_true] at h ⊢
    obtain ⟨h1, h2⟩ := h
    obtain ⟨g1, g2⟩ := pairsOk_mid A B h2
    refine ⟨fun j' kj' hj => ?_, fun x hx => h1 x ?_, g2⟩
    · rcases List.mem_cons.1 hj with hj | hj
      · cases hj
        have := h1 (i, k) (by simp)
        dsimp only at this
        cases hp : ops[j]? with
        | none => rw [hp] at this; simp at this
        | some p =>
          cases hq : ops[i]? with
          | none => rw [hp, hq] at this; simp at this
          | some q =>
            rw [hp, hq] at this
            exact ⟨p, q, rfl, rfl, by simpa using this⟩
      · exact g1 j' kj' hj
    · rcases List.mem_append.1 hx with hx | hx
      · exact List.mem_append.2 (.inl hx)
      · exact List.mem_append.2 (.inr (List.mem_cons_of_mem _ hx))


theorem SW.front {K : Env → List Ent → List Ent → Prop} (hK : Lax3 w0 K) {i : Nat} {k : Kd} {q : Oper} (hq : ops[i]? = some q) : ∀ (A B : List (Nat × Kd)) (E : Env) (O R : List Ent),
    (∀ j kj, (j, kj) ∈ A → ∃ p, ops[j]? = some p ∧ swapOk ops kj k p q = true) → SW P n w0 ops T K (A ++ (i, k) :: B) E O R → SW P n w0 ops T K ((i, k) :: (A ++ B)) E O R
  | [], _, _, _, _, _, h => h
  | (j, kj) :: A, B, E, O, R, hs, h => by
    obtain ⟨p, hp, h⟩ := h
    obtain ⟨p', hp', hsw⟩ := hs j kj List.mem_cons_self
    obtain rfl : p = p' := Option.some.inj (hp.symm.trans hp')
    have h2 : Stp P n w0 ops T kj j p E O R (fun E O R => Stp P n w0 ops T k i q E O R (SW P n w0 ops T K (A ++ B))) := by
      have ih := fun E O R => SW.front hK hq A B E O R (fun j kj hj => hs j kj (List.mem_cons_of_mem _ hj))
      have key : ∀ E O R, SW P n w0 ops T K (A ++ (i, k) :: B) E O R → Stp P n w0 ops T k i q E O R (SW P n w0 ops T K (A ++ B)) := fun E O R h => by
        obtain ⟨q', hq', h'⟩ := ih E O R h
        obtain rfl : q = q' := Option.some.inj (hq.symm.trans hq')
        exact h'
      simp only [Stp] at h ⊢
      split at h
      · rename_i hk; rw [if_pos hk]; exact ⟨h.1, h.2.1, h.2.2.1, fun b => key _ _ _ (h.2.2.2 b)⟩
      · rename_i hk; rw [if_neg hk]
        split at h
        · rename_i hk4; rw [if_pos hk4]
          obtain ⟨X, u, R, h0, h1, h2, h3, h4⟩ := h
          exact ⟨X, u, R, h0, h1, h2, h3, fun x => key _ _ _ (h4 x)⟩
        · rename_i hk4; rw [if_neg hk4]
          obtain ⟨X, u, R, h0, h1, h2, h3⟩ := h
          exact ⟨X, u, R, h0, h1, h2, fun x => key _ _ _ (h3 x)⟩
    have h3 := Stp.swap (SW.lax hK (A ++ B)) hsw h2
    refine ⟨q, hq, ?_⟩
    simp only [Stp] at h3 ⊢
    split at h3
    · rename_i hk; rw [if_pos hk]; exact ⟨h3.1, h3.2.1, h3.2.2.1, fun b => ⟨p, hp, h3.2.2.2 b⟩⟩
    · rename_i hk; rw [if_neg hk]
      split at h3
      · rename_i hk4; rw [if_pos hk4]
        obtain ⟨X, u, R, h0, h1, h2, h3, h4⟩ := h3
        exact ⟨X, u, R, h0, h1, h2, h3, fun x => ⟨p, hp, h4 x⟩⟩
      · rename_i hk4; rw [if_neg hk4]
        obtain ⟨X, u, R, h0, h1, h2, h4⟩ := h3
        exact ⟨X, u, R, h0, h1, h2, fun x => ⟨p, hp, h4 x⟩⟩

theorem Stp.wpOp {k : Kd} {o : Oper} {i : Nat} {Q : Exit → Act → World → Prop} {K : Env → List Ent → List Ent → Prop} {S : Act → World → Prop} (ho : ops[i]? = some o) (h : Stp P n w0 ops T k i o E O R K) (hR : ∀ E' O' R', K E' O' R' → VX n w0 (O' ++ R') E' S) {a : Act} {w : World} (ha : Models n E a) (hw : Hp w0 (O ++ R) w) : Go.wpOp P ops Q i S a w := by
  unfold Go.wpOp
  simp only [ho]
  simp only [Stp] at h
  split at h
  · obtain ⟨hg, hd, hA, h⟩ := h
    rw [if_pos (by simp [Region.wanted, hg])]
    refine .inl ?_
    unfold Oper.wp
    refine (hA a.eval w (ha.ev _)).upon fun v w' ⟨b, h1, h2, h3⟩ => ?_
    exact hR _ _ _ (h b) _ _ (models_put ha hd h1) (hw.new h2 h3)
  split at h
  · obtain ⟨X, u, R', _, hg, hy, hd, h3⟩ := h
    rw [if_pos (hg.wanted ha)]
    refine .inl ?_
    unfold Oper.wp
    refine (hy a.eval w [] (ha.ev _) (by simpa using hw)).upon fun v w' ⟨x, h1, h2⟩ => ?_
    exact hR _ _ _ (h3 x) _ _ (models_put ha hd h1) (by simpa using h2)
  · obtain ⟨X, u, R', _, h1, hd, h3⟩ := h
    cases h1 with
    | skip hg =>
      rw [if_neg (by rw [hg.wanted ha]; decide)]
      exact hR _ _ _ (h3 ()) _ _ (models_put ha hd (by simp [undef, cn])) hw
    | quiet hg hy =>
      rw [if_pos (hg.wanted ha)]
      refine .inl ?_
      unfold Oper.wp
      refine (hy a.eval w (ha.ev _) hw).upon fun v w' ⟨h1, h2⟩ => ?_
      exact hR _ _ _ (h3 ()) _ _ (models_put ha hd h1) (hw.ext h2)
    | quietR hg hy =>
      rw [if_pos (hg.wanted ha)]
      refine .inl ?_
      unfold Oper.wp
      refine (hy a.eval w (ha.ev _) (hw.sub (List.sublist_append_right _ _))).upon fun v w' ⟨h1, h2⟩ => ?_
      exact hR _ _ _ (h3 ()) _ _ (models_put ha hd h1) (hw.ext h2)
    | make hg hy =>
      rw [if_pos (hg.wanted ha)]
      refine .inl ?_
      unfold Oper.wp
      refine (hy a.eval w (ha.ev _) hw).upon fun v w' ⟨x, h1, h2, h4, h5⟩ => ?_
      exact hR _ _ _ (h3 x) _ _ (models_put ha hd h1) (by rw [List.append_assoc]; exact hw.news h2 h4 h5)
    | turn hg hy =>
      rw [if_pos (hg.wanted ha)]
      refine .inl ?_
      unfold Oper.wp
      refine (hy a.eval w [] (ha.ev _) (by simpa using hw)).upon fun v w' ⟨x, h1, h2⟩ => ?_
      exact hR _ _ _ (h3 x) _ _ (models_put ha hd h1) (by simpa using h2)

theorem any_of_walk {Q : Exit → Act → World → Prop} {K : Env → List Ent → List Ent → Prop} (hK : Lax3 w0 K) (hQ : ∀ E O R, K E O R → VX n w0 (O ++ R) E (Q .normal)) (hback : backOk ops = true) :
    ∀ (fuel : Nat) (π : List (Nat × Kd)) (listed : Array Bool) (E : Env) (O R : List Ent) (a : Act) (w : World), π.length ≤ fuel → listed.size = ops.size → (∀ j, j < ops.size → (listed.getD j true = false ↔ ∃ k, (j, k) ∈ π)) → (π.map (·.1)).Nodup →
      (∀ j o, ops[j]? = some o → listed.getD j false = true → ∀ e ∈ o.after, Region.binds .any e = true → listed.getD e.on false = true) → pairsOk ops π = true → SW P n w0 ops T K π E O R → Models n E a → Hp w0 (O ++ R) w → wpAny P .any ops Q fuel listed a w := by
  have hnone : ∀ (π : List (Nat × Kd)) (listed : Array Bool) (E : Env) (O R : List Ent) (a : Act) (w : World), listed.size = ops.size → (∀ j, j < ops.size → (listed.getD j true = false ↔ ∃ k, (j, k) ∈ π)) → Region.ready .any ops listed = [] → SW P n w0 ops T K π E O R → (∀ j k, (j, k) ∈ π → j < ops.size) → Models n E a → Hp w0 (O ++ R) w → Q .normal a w := by
    intro π listed E O R a w hsz hl hr hS hlt ha hw
    have hnil : π = [] := by
      apply Classical.byContradiction
      intro hne
      -- the least index that is not listed could come up
      have hex : ∃ j, j < ops.size ∧ listed.getD j true = false := by
        cases π with
        | nil => exact absurd rfl hne
        | cons x π => obtain ⟨j, k⟩ := x; exact ⟨j, hlt j k List.mem_cons_self, (hl j (hlt j k List.mem_cons_self)).2 ⟨k, List.mem_cons_self⟩⟩
      have hmin : ∀ m, (∃ j, j ≤ m ∧ j < ops.size ∧ listed.getD j true = false) → ∃ j, j < ops.size ∧ listed.getD j true = false ∧ ∀ i, i < j → listed.getD i true = true := by
        intro m
        induction m with
        | zero => rintro ⟨j, hj, h1, h2⟩; exact ⟨j, h1, h2, fun i hi => by omega⟩
        | succ m ih =>
          rintro ⟨j, hj, h1, h2⟩
          by_cases h : ∃ j, j ≤ m ∧ j < ops.size ∧ listed.getD j true = false
          · exact ih h
          · refine ⟨j, h1, h2, fun i hi => ?_⟩
            cases hi' : listed.getD i true with
            | true => rfl
            | false => exact absurd ⟨i, by omega, by omega, hi'⟩ h
      obtain ⟨j, hj⟩ := hex
      obtain ⟨j, h1, h2, h3⟩ := hmin j ⟨j, Nat.le_refl _, hj⟩
      have hmem : j ∈ Region.ready .any ops listed := by
        refine mem_ready.2 ⟨h2, ops[j], Array.getElem?_eq_getElem h1, fun e he hb => ?_⟩
        have hb' := List.all_eq_true.1 hback j (List.mem_range.2 h1)
        rw [Array.getElem?_eq_getElem h1] at hb'
        have hlt' := Array.all_eq_true'.1 hb' e he
        simp only [hb, Bool.not_true, Bool.false_or, decide_eq_true_eq] at hlt'
        have := h3 e.on hlt'
        have hs : e.on < listed.size := by omega
        simpa [hs] using this
      rw [hr] at hmem
      cases hmem
    subst hnil
    exact hQ E O R hS a w ha hw
  intro fuel
  induction fuel with
  | zero =>
    intro π listed E O R a w hf hsz hl _ _ _ hS ha hw
    have hnil : π = [] := List.eq_nil_of_length_eq_zero (by omega)
    subst hnil
    refine ⟨?_, hQ E O R hS a w ha hw⟩
    apply List.eq_nil_iff_forall_not_mem.2
    intro i hi
    obtain ⟨h1, o, h2, _⟩ := mem_ready.1 hi
    obtain ⟨k, hk⟩ := (hl i (Array.getElem?_eq_some_iff.1 h2).1).1 h1
    cases hk
  | succ fuel ih =>
    intro π listed E O R a w hf hsz hl hnd hcl hp hS ha hw
    refine ⟨fun hr => ?_, fun i hi => ?_⟩
    · -- nothing may come up
      refine hnone π listed E O R a w hsz hl hr hS (fun j k hj => ?_) ha hw
      -- an index of π is one of the region's
      have : ∀ (π : List (Nat × Kd)), pairsOk ops π = true → 2 ≤ π.length → ∀ j k, (j, k) ∈ π → j < ops.size := by
        intro π hp h2 j k hj
        obtain ⟨A, B, rfl⟩ := List.append_of_mem hj
        cases A with
        | nil =>
          cases B with
          | nil => simp at h2
          | cons y B =>
            simp only [List.nil_append, pairsOk, Bool.and_eq_true, List.all_eq_true] at hp
            have := hp.1 y List.mem_cons_self
            obtain ⟨y1, y2⟩ := y
            dsimp only at this
            cases hj' : ops[j]? with
            | none => rw [hj'] at this; simp at this
            | some o => exact (Array.getElem?_eq_some_iff.1 hj').1
        | cons x A =>
          obtain ⟨x1, x2⟩ := x
          obtain ⟨g, _⟩ := pairsOk_mid ((x1, x2) :: A) B hp
          obtain ⟨p, q, _, hq, _⟩ := g x1 x2 List.mem_cons_self
          exact (Array.getElem?_eq_some_iff.1 hq).1
      by_cases h2 : 2 ≤ π.length
      · exact this π hp h2 j k hj
      · cases π with
        | nil => cases hj
        | cons x π =>
          have : π = [] := List.eq_nil_of_length_eq_zero (by simp only [List.length_cons] at h2; omega)
          subst this
          simp only [List.mem_singleton] at hj
          subst hj
          obtain ⟨o, ho, _⟩ := hS
          exact (Array.getElem?_eq_some_iff.1 ho).1
    · obtain ⟨h1, o, h2, h3⟩ := mem_ready.1 hi
      have hlt := (Array.getElem?_eq_some_iff.1 h2).1
      obtain ⟨k, hk⟩ := (hl i hlt).1 h1
      obtain ⟨A, B, rfl⟩ := List.append_of_mem hk
      obtain ⟨g1, g2⟩ := pairsOk_mid A B hp
      have hnot : ∀ j kj, (j, kj) ∈ A → listed.getD j false = false := fun j kj hj => by
        obtain ⟨p, q, hp', _⟩ := g1 j kj hj
        have := (hl j (Array.getElem?_eq_some_iff.1 hp').1).2 ⟨kj, List.mem_append.2 (.inl hj)⟩
        exact getDb this
      have hsw : ∀ j kj, (j, kj) ∈ A → ∃ p, ops[j]? = some p ∧ swapOk ops kj k p o = true := fun j kj hj => by
        obtain ⟨p, q, hp', hq', h⟩ := g1 j kj hj
        obtain rfl : o = q := Option.some.inj (h2.symm.trans hq')
        rcases h with h | h
        · have := reach_listed hcl ops.size [i] j (fun j' hj' o' ho' e he hb => by
            simp only [List.mem_singleton] at hj'
            subst hj'
            obtain rfl : o = o' := Option.some.inj (h2.symm.trans ho')
            exact h3 e he hb) h
          rw [hnot j kj hj] at this
          cases this
        · exact ⟨p, hp', h⟩
      have hfront := SW.front hK h2 A B E O R hsw hS
      obtain ⟨o', ho', hst⟩ := hfront
      obtain rfl : o = o' := Option.some.inj (h2.symm.trans ho')
      have hi' : i < listed.size := by omega
      refine Stp.wpOp (ops := ops) h2 hst (fun E' O' R' hS' a' w' ha' hw' => ?_) ha hw
      refine ih (A ++ B) _ E' O' R' a' w' (by simp only [List.length_append, List.length_cons] at hf ⊢; omega) (by simpa using hsz) (fun j hj => ?_) ?_ (fun j oj hoj hlj e he hb => ?_) g2 hS' ha' hw'
      · rw [getD_set hi']
        have hndi : ∀ k', (i, k') ∉ A ++ B := by
          intro k' hk'
          simp only [List.map_append, List.map_cons] at hnd
          rw [List.nodup_append] at hnd
          obtain ⟨n1, n2, n3⟩ := hnd
          rcases List.mem_append.1 hk' with hk' | hk'
          · exact n3 i (List.mem_map_of_mem (f := (·.1)) hk') i List.mem_cons_self rfl
          · exact (List.nodup_cons.1 n2).1 (List.mem_map_of_mem (f := (·.1)) hk')
        by_cases hij : i = j
        · subst hij
          rw [if_pos rfl]
          exact ⟨fun h => by (cases h), fun ⟨k', hk'⟩ => absurd hk' (hndi k')⟩
        · rw [if_neg hij, hl j hj]
          constructor
          · rintro ⟨k', hk'⟩
            refine ⟨k', ?_⟩
            rcases List.mem_append.1 hk' with hk' | hk'
            · exact List.mem_append.2 (.inl hk')
            · rcases List.mem_cons.1 hk' with hk' | hk'
              · cases hk'; exact absurd rfl hij
              · exact List.mem_append.2 (.inr hk')
          · rintro ⟨k', hk'⟩
            refine ⟨k', ?_⟩
            rcases List.mem_append.1 hk' with hk' | hk'
            · exact List.mem_append.2 (.inl hk')
            · exact List.mem_append.2 (.inr (List.mem_cons_of_mem _ hk'))
      · simp only [List.map_append, List.map_cons] at hnd ⊢
        exact hnd.sublist (List.Sublist.append_left (List.sublist_cons_self _ _) _)
      · rw [getD_set hi'] at hlj ⊢
        split at hlj
        · rename_i hij
          subst hij
          obtain rfl : o = oj := Option.some.inj (h2.symm.trans hoj)
          rw [h3 e he hb]
          split <;> rfl
        · rw [hcl j oj hoj hlj e he hb]
          split <;> rfl


/-- **A region that draws its order, walked in the order π: S turns, R is only read.** -/
theorem V.drawR {id : Nat} {l : List Oper} {Q : Exit → Act → World → Prop} (π : List (Nat × Kd)) (T : Tab) (S R : List Ent) (hm : P.follows .mixedOrders = true) (hok : (permOk l.length π && pairsOk l.toArray π && backOk l.toArray) = true) (hO : ∀ w, Hp w0 O w → Hp w0 (S ++ R) w)
    (h : SW P n w0 l.toArray T (fun E S R => VE n w0 (S ++ R) E Q .normal) π E S R) : V P n w0 O E (.region id l.toArray true) Q := by
  intro a w ha hw
  simp only [Bool.and_eq_true] at hok
  obtain ⟨⟨h1, h2⟩, h3⟩ := hok
  obtain ⟨n1, n2⟩ := permOk_nodup h1
  refine wp_region_any hm ?_
  have hlen : π.length = l.toArray.size := by
    simp only [permOk, Bool.and_eq_true, decide_eq_true_eq] at h1
    simpa using h1.1.2
  refine any_of_walk (K := fun E S R => VE n w0 (S ++ R) E Q .normal) (fun E E' O O' R hE hO h a w ha hw => h a w (ha.mono fun t u ht => by rw [hE]; exact ht) (hp_nil (frame hO) w hw)) (fun _ _ _ h => h) h3 _ π _ E S R a _ (by omega) (by simp) (fun j hj => ?_) n1 (fun j o _ hj => ?_) h2 h ha ((hO _ hw).ext (below_drew _ _))
  · simp only [List.size_toArray] at hj
    exact ⟨fun _ => n2 j hj, fun _ => by simp [hj]⟩
  · rw [getD_replicate_false'] at hj
    cases hj
where
  getD_replicate_false' {m j : Nat} : (Array.replicate m false).getD j false = false := by
    rcases Nat.lt_or_ge j m with h | h
    · simp [h]
    · simp [h]

/-! ### steps of such a walk -/
section
variable {o : Oper} {i d : Nat} {π : List (Nat × Kd)} {K : Env → List Ent → List Ent → Prop}
theorem SW.q {u : Value} (ho : ops[i]? = some o) (hg : Wants ops E o) (hd : o.dst = some d) (hdn : d < n) (hy : YQ P w0 (O ++ R) E o u) (h : SW P n w0 ops T K π ((d, u) :: E) O R) : SW P n w0 ops T K ((i, 0) :: π) E O R :=
  ⟨o, ho, by rw [Stp, if_neg (by decide), if_neg (by decide)]; exact ⟨_, _, _, ⟨()⟩, .quiet hg.guard hy, dok hd hdn, fun _ => by rw [hd]; exact h⟩⟩
theorem SW.p {u : Value} (ho : ops[i]? = some o) (hg : Wants ops E o) (hd : o.dst = some d) (hdn : d < n) (hy : YQ P w0 R E o u) (h : SW P n w0 ops T K π ((d, u) :: E) O R) : SW P n w0 ops T K ((i, 5) :: π) E O R :=
  ⟨o, ho, by rw [Stp, if_neg (by decide), if_neg (by decide)]; exact ⟨_, _, _, ⟨()⟩, .quietR hg.guard hy, dok hd hdn, fun _ => by rw [hd]; exact h⟩⟩
theorem SW.r {u : Value} (ho : ops[i]? = some o) (hg : Wants ops E o) (hd : o.dst = some d) (hdn : d < n) (hy : YR P E o u) (h : SW P n w0 ops T K π ((d, u) :: E) O R) : SW P n w0 ops T K ((i, 5) :: π) E O R := SW.p ho hg hd hdn hy.q h
theorem SW.new {X : Type} [hX : Nonempty X] {u : X → Value} {N : X → List Ent} (ho : ops[i]? = some o) (hg : Wants ops E o) (hd : o.dst = some d) (hdn : d < n) (hy : YN P w0 (O ++ R) E o u N) (h : ∀ x, SW P n w0 ops T K π ((d, u x) :: E) (N x ++ O) R) : SW P n w0 ops T K ((i, 1) :: π) E O R :=
  ⟨o, ho, by rw [Stp, if_neg (by decide), if_neg (by decide)]; exact ⟨_, _, _, hX, .make hg.guard hy, dok hd hdn, fun x => by rw [hd]; exact h x⟩⟩
theorem SW.new1 {X : Type} [Nonempty X] {u : X → Value} {N : X → Ent} (ho : ops[i]? = some o) (hg : Wants ops E o) (hd : o.dst = some d) (hdn : d < n) (hy : YN P w0 (O ++ R) E o u (fun x => [N x])) (h : ∀ x, SW P n w0 ops T K π ((d, u x) :: E) (N x :: O) R) : SW P n w0 ops T K ((i, 1) :: π) E O R := SW.new ho hg hd hdn hy h
theorem SW.a {u : Nat → Value} {e : Nat → Ent} (ho : ops[i]? = some o) (hg : o.guard = none) (hd : o.dst = some d) (hdn : d < n) (hT : T.get i = (u, e)) (hy : ∀ w0, YN P w0 [] E o u (fun b => [e b])) (h : ∀ b, SW P n w0 ops T K π ((d, u b) :: E) (e b :: O) R) : SW P n w0 ops T K ((i, 2) :: π) E O R :=
  ⟨o, ho, by
    rw [Stp, if_pos rfl, hT]
    exact ⟨hg, dok hd hdn, YA.of hy, fun b => by rw [hd]; exact h b⟩⟩
theorem SW.c {X : Type} [hX : Nonempty X] {u : X → Value} {O' : X → List Ent} (ho : ops[i]? = some o) (hg : Wants ops E o) (hd : o.dst = some d) (hdn : d < n) (hy : YC P w0 (O ++ R) E o u (fun x => O' x ++ R)) (h : ∀ x, SW P n w0 ops T K π ((d, u x) :: E) (O' x) R) : SW P n w0 ops T K ((i, 3) :: π) E O R :=
  ⟨o, ho, by rw [Stp, if_neg (by decide), if_neg (by decide)]; exact ⟨_, _, _, hX, .turn hg.guard hy, dok hd hdn, fun x => by rw [hd]; exact h x⟩⟩
theorem SW.s {X : Type} [hX : Nonempty X] {u : X → Value} {O' : X → List Ent} (ho : ops[i]? = some o) (hg : Wants ops E o) (hd : o.dst = none) (hy : YC P w0 (O ++ R) E o u (fun x => O' x ++ R)) (h : ∀ x, SW P n w0 ops T K π E (O' x) R) : SW P n w0 ops T K ((i, 3) :: π) E O R :=
  ⟨o, ho, by rw [Stp, if_neg (by decide), if_neg (by decide)]; exact ⟨_, _, _, hX, .turn hg.guard hy, (fun d' h' => by rw [hd] at h'; cases h'), fun x => by rw [hd]; exact h x⟩⟩
theorem SW.no {k : Kd} {j t : Nat} {b b' : Bool} (ho : ops[i]? = some o) (hk : k ≠ 2 ∧ k ≠ 4) (hg : o.guard = some (j, b)) (hj : (ops[j]?).bind (·.dst) = some t) (hb : E.get t = some (.bool b')) (hne : (b' == b) = false) (hd : o.dst = some d) (hdn : d < n)
    (h : SW P n w0 ops T K π ((d, undef) :: E) O R) : SW P n w0 ops T K ((i, k) :: π) E O R :=
  ⟨o, ho, by
    rw [Stp, if_neg hk.1, if_neg hk.2]
    refine ⟨_, _, _, ⟨()⟩, .skip (hne ▸ Guard.some hg hj hb), dok hd hdn, fun _ => by rw [hd]; exact h⟩⟩
theorem SW.split (hK : Lax3 w0 K) (t : Nat) (b : Bool) (hb : E.get t = some (.bool b)) (ht : b = true → SW P n w0 ops T K π ((t, .bool true) :: E) O R) (hf : b = false → SW P n w0 ops T K π ((t, .bool false) :: E) O R) : SW P n w0 ops T K π E O R := by
  cases b with
  | true => exact SW.lax hK π _ _ _ _ _ (fun s => (Env.get_shadow t _ E hb s).symm) (fun _ _ h => h) (ht rfl)
  | false => exact SW.lax hK π _ _ _ _ _ (fun s => (Env.get_shadow t _ E hb s).symm) (fun _ _ h => h) (hf rfl)
theorem eqO {O' : List Ent} {S : Act → World → Prop} (h : O = O') (hk : VX n w0 O' E S) : VX n w0 O E S := h ▸ hk
theorem UpdF.app {X : Type} {S R : List Ent} {e : Ent} {f : X → Ent} {S' : X → List Ent} (h : UpdF S e f S') : UpdF (S ++ R) e f (fun x => S' x ++ R) := by
  induction h with
  | here => exact UpdF.here
  | there _ ih => exact UpdF.there ih
  | thereS _ ih =>
    rename_i S1 O1 _ _ _
    have := UpdF.thereS (S := S1) ih
    simpa only [List.append_assoc] using this
theorem SW.t {X : Type} [hX : Nonempty X] {u : X → Value} {O' : X → List Ent} (ho : ops[i]? = some o) (hg : Wants ops E o) (hd : o.dst = none) (hy : YC P w0 (O ++ R) E o u O') (h : ∀ x, SW P n w0 ops T K π E (O' x) []) : SW P n w0 ops T K ((i, 4) :: π) E O R :=
  ⟨o, ho, by rw [Stp, if_neg (by decide), if_pos rfl]; exact ⟨_, _, _, hX, hg.guard, hy, (fun d' h' => by rw [hd] at h'; cases h'), fun x => by rw [hd]; exact h x⟩⟩
theorem SW.done (h : K E O R) : SW P n w0 ops T K [] E O R := h
end
end
end Dr
theorem Hp.pick {w0 w : World} {O M F : List Ent} (hw : Hp w0 O w) (h : Pick O M F) : Hp w0 M w := (hw.perm' h.perm).sub (List.sublist_append_right _ _)
theorem Hp.pickS {w0 w : World} {O M F : List Ent} (hw : Hp w0 O w) (h : Pick O M F) : Hp w0 (M ++ F) w := (hw.perm' h.perm).perm' List.perm_append_comm
end Go.Proofs.YtmecikeaogjmpaaDoor


namespace Go.Proofs.YtmecikeaogjmpaaDoor
open Go.RowKit

section
variable {P : Program} {E : Env} {o : Oper}
end

theorem wrap_quo {a b : Int} (h : 0 ≤ a ∧ a ≤ 9223372036854775807 ∧ 0 < b) : IntKind.i64.wrap (a.tdiv b) = a.tdiv b := by
  obtain ⟨h1, h2, h3⟩ := h
  have e : a.tdiv b = a / b := Int.tdiv_eq_ediv_of_nonneg h1
  have e1 : 0 ≤ a / b := Int.ediv_nonneg h1 (by omega)
  have e2 : a / b ≤ a := Int.ediv_le_self b h1
  rw [e]
  exact wrap_in (by omega)
theorem in_t {n lo hi : Int} (h : lo ≤ n) : icmp .leq n hi = decide (lo ≤ n ∧ n ≤ hi) := by
  rw [Bool.eq_iff_iff, decide_eq_true_eq]
  constructor
  · intro h; have := ic_leq h; omega
  · rintro ⟨_, h⟩; exact decide_eq_true h
theorem in_f {n lo hi : Int} (h : n < lo) : false = decide (lo ≤ n ∧ n ≤ hi) := by
  symm; rw [decide_eq_false_iff_not]; omega
end Go.Proofs.YtmecikeaogjmpaaDoor


namespace Go.Proofs.YtmecikeaogjmpaaDoor

def sqrt32 (x : Nat) : Nat := fconv .f64 .f32 (fsqrt (fconv .f32 .f64 x))
end Go.Proofs.YtmecikeaogjmpaaDoor


namespace Go.Proofs.YtmecikeaogjmpaaDoor
open Go.RowKit

abbrev V3 := Nat × Nat × Nat
def z3 : V3 := (0, 0, 0)
def vcs (v : V3) : List Value := [.float .f32 v.1, .float .f32 v.2.1, .float .f32 v.2.2]
def vv (v : V3) : Value := .agg #[.float .f32 v.1, .float .f32 v.2.1, .float .f32 v.2.2]
def vl : List V3 → List Value
  | [] => []
  | v :: vs => .float .f32 v.1 :: .float .f32 v.2.1 :: .float .f32 v.2.2 :: vl vs
theorem vl_length : ∀ vs : List V3, (vl vs).length = vs.length * 3
  | [] => rfl
  | v :: vs => by simp only [vl, List.length_cons, vl_length vs]; omega
theorem vl_scal : ∀ vs : List V3, (vl vs).all scal = true
  | [] => rfl
  | v :: vs => by simp only [vl, List.all_cons, vl_scal vs, scal, Bool.and_self]
theorem vl_append : ∀ us vs : List V3, vl us ++ vl vs = vl (us ++ vs)
  | [], vs => rfl
  | u :: us, vs => by simp only [vl, List.cons_append, vl_append us vs]
theorem vl_snoc (us : List V3) (v : V3) : vl us ++ [.float .f32 v.1, .float .f32 v.2.1, .float .f32 v.2.2] = vl (us ++ [v]) := vl_append us [v]
theorem vl_take : ∀ (vs : List V3) (k : Nat), k < vs.length → ((vl vs).drop (k * 3)).take 3 = vcs (vs.getD k z3)
  | [], _, h => by simp at h
  | v :: vs, 0, _ => rfl
  | v :: vs, k + 1, h => by
    have ih := vl_take vs k (by simpa using h)
    rw [show (k + 1) * 3 = k * 3 + 1 + 1 + 1 by omega]
    simpa [vl, List.getD] using ih
section
variable {P : Program} {n : Nat} {w0 : World} {O : List Ent} {E : Env} {o : Oper}
theorem yq_loadV {t : TypeId} {x : Operand} {a : Option Addr} {k : Nat} {vs : List V3} {fs : Array Field} (ho : o.op = .load t x) (ht : P.underlying t = some (.struct fs)) (hz : (P.info? t).map (·.size) = some 3) (hx : E.opd x = some (.pointer (some (adr a (k * 3))))) (hs : Sees w0 O a (vl vs)) (hk : k < vs.length) :
    YQ P w0 O E o (vv (vs.getD k z3)) :=
  yq_loadS (cs := vcs (vs.getD k z3)) ho ht hz hx hs (vl_take vs k hk) rfl rfl
end

def add3 (a b : V3) : V3 := (fop .add .f32 a.1 b.1, fop .add .f32 a.2.1 b.2.1, fop .add .f32 a.2.2 b.2.2)
def sub3 (a b : V3) : V3 := (fop .sub .f32 a.1 b.1, fop .sub .f32 a.2.1 b.2.1, fop .sub .f32 a.2.2 b.2.2)
def scale3 (a : V3) (k : Nat) : V3 := (fop .mul .f32 a.1 k, fop .mul .f32 a.2.1 k, fop .mul .f32 a.2.2 k)
def inner3 (a b : V3) : Nat := fop .add .f32 (fop .add .f32 (fop .mul .f32 a.1 b.1) (fop .mul .f32 a.2.1 b.2.1)) (fop .mul .f32 a.2.2 b.2.2)
def cross3 (a b : V3) : V3 := (fop .sub .f32 (fop .mul .f32 a.2.1 b.2.2) (fop .mul .f32 a.2.2 b.2.1), fop .sub .f32 (fop .mul .f32 a.2.2 b.1) (fop .mul .f32 a.1 b.2.2), fop .sub .f32 (fop .mul .f32 a.1 b.2.1) (fop .mul .f32 a.2.1 b.1))
def long3 (a : V3) : Nat := sqrt32 (inner3 a a)
def fin3 (a : V3) : Bool := fin a.1 && fin a.2.1 && fin a.2.2
def Can3 (a : V3) : Prop := Can .f32 a.1 ∧ Can .f32 a.2.1 ∧ Can .f32 a.2.2
theorem fin3_t {a : V3} (h1 : fin a.1 = true) (h2 : fin a.2.1 = true) : fin a.2.2 = fin3 a := by unfold fin3; rw [h1, h2]; rfl
theorem fin3_f1 {a : V3} (h1 : fin a.1 = false) : false = fin3 a := by unfold fin3; rw [h1]; rfl
theorem fin3_f2 {a : V3} (h1 : fin a.1 = true) (h2 : fin a.2.1 = false) : false = fin3 a := by unfold fin3; rw [h1, h2]; rfl
/-! ### the field of a segment -/
def segX (a b p : V3) : Nat := fop .mul .f32 (long3 (sub3 p a)) (long3 (sub3 p b))
def segD (a b p : V3) : Nat := fop .mul .f32 (segX a b p) (fop .add .f32 (segX a b p) (inner3 (sub3 p a) (sub3 p b)))
def segQ (a b p : V3) : Nat := fop .quo .f32 (fop .add .f32 (long3 (sub3 p a)) (long3 (sub3 p b))) (segD a b p)
def segF (a b p : V3) : V3 := if fcmp .gtr .f32 (segD a b p) 0 && fin (segQ a b p) then scale3 (cross3 (sub3 p a) (sub3 p b)) (segQ a b p) else z3
end Go.Proofs.YtmecikeaogjmpaaDoor


namespace Go.Proofs.YtmecikeaogjmpaaDoor
open Go.RowKit

abbrev Wr := List V3 × Bool × Nat
def zw : Wr := ([], false, 0)
def wrents (t : TypeId) (f : Nat → Option Addr × Nat) (ws : List Wr) : List Ent := (List.range ws.length).map fun i => ⟨(f i).1, vl (ws.getD i zw).1, (f i).2 * 3, t⟩
theorem wrents_mem {t : TypeId} {f : Nat → Option Addr × Nat} {ws : List Wr} {i : Nat} (h : i < ws.length) : (⟨(f i).1, vl (ws.getD i zw).1, (f i).2 * 3, t⟩ : Ent) ∈ wrents t f ws := by
  unfold wrents
  exact List.mem_map.2 ⟨i, by simpa using h, rfl⟩
/-- Each wire's points lie where its header says. -/
def WRws (w : World) (f : Nat → Option Addr × Nat) (ws : List Wr) : Prop := ∀ i, i < ws.length → Cl w (f i).1 (vl (ws.getD i zw).1)
theorem WRws.below {w w' : World} {f : Nat → Option Addr × Nat} {ws : List Wr} (h : WRws w f ws) (hb : Below w.heap.size w w') : WRws w' f ws := fun i hi => (h i hi).below hb
theorem WRws.root {w0 w : World} {O : List Ent} {f : Nat → Option Addr × Nat} {ws : List Wr} (h : WRws w0 f ws) (hw : Hp w0 O w) : WRws w f ws := h.below hw.below
inductive WRowsIn : List Ent → TypeId → (Nat → Option Addr × Nat) → List Wr → Prop
  | here {t : TypeId} {f : Nat → Option Addr × Nat} {ws : List Wr} {O : List Ent} : WRowsIn (wrents t f ws ++ O) t f ws
  | last {t : TypeId} {f : Nat → Option Addr × Nat} {ws : List Wr} : WRowsIn (wrents t f ws) t f ws
  | there {t : TypeId} {f : Nat → Option Addr × Nat} {ws : List Wr} {e : Ent} {O : List Ent} : WRowsIn O t f ws → WRowsIn (e :: O) t f ws
  | thereS {t : TypeId} {f : Nat → Option Addr × Nat} {ws : List Wr} {S O : List Ent} : WRowsIn O t f ws → WRowsIn (S ++ O) t f ws
theorem WRowsIn.mem {O : List Ent} {t : TypeId} {f : Nat → Option Addr × Nat} {ws : List Wr} (h : WRowsIn O t f ws) : ∀ i, i < ws.length → (⟨(f i).1, vl (ws.getD i zw).1, (f i).2 * 3, t⟩ : Ent) ∈ O := by
  induction h with
  | here => exact fun i hi => List.mem_append_left _ (wrents_mem hi)
  | last => exact fun i hi => wrents_mem hi
  | there _ ih => exact fun i hi => List.mem_cons_of_mem _ (ih i hi)
  | thereS _ ih => exact fun i hi => List.mem_append_right _ (ih i hi)
theorem WRws.own {w0 w : World} {O : List Ent} {t : TypeId} {f : Nat → Option Addr × Nat} {ws : List Wr} (h : WRowsIn O t f ws) (hw : Hp w0 O w) : WRws w f ws := fun i hi => Sees.own (h.mem i hi) w hw
def Cans3 (vs : List V3) : Prop := ∀ v ∈ vs, Can3 v
theorem Cans3.row {vs : List V3} (h : Cans3 vs) {k : Nat} (hk : k < vs.length) : Can3 (vs.getD k z3) := h _ (by simp [hk])
def CansW (ws : List Wr) : Prop := ∀ w ∈ ws, Cans3 w.1 ∧ Can .f32 w.2.2
theorem CansW.row {ws : List Wr} (h : CansW ws) {k : Nat} (hk : k < ws.length) : Cans3 (ws.getD k zw).1 ∧ Can .f32 (ws.getD k zw).2.2 := h _ (by simp [hk])
theorem vmem {vs : List V3} {k : Nat} (h : k < vs.length) : vs.getD k z3 ∈ vs := by simp [h]
section
variable {P : Program} {n : Nat} {w0 : World} {O : List Ent} {E : Env} {o : Oper}
end

/-! ### sizes -/
/-! ### what is valid -/
def wireOk (w : Wr) : Bool := decide (2 ≤ w.1.length ∧ w.1.length ≤ 48) && w.1.all fin3 && fin w.2.2
section
variable {ps : List V3} {cl : Bool} {cur : Nat}
theorem wire_no1 (h : ¬ (2 ≤ ps.length ∧ ps.length ≤ 48)) : false = wireOk (ps, cl, cur) := by unfold wireOk; rw [decide_eq_false h]; rfl
theorem wire_no2 (h : ps.all fin3 = false) : false = wireOk (ps, cl, cur) := by unfold wireOk; rw [h, Bool.and_false]; rfl
theorem wire_no3 (h : fin cur = false) : false = wireOk (ps, cl, cur) := by unfold wireOk; rw [h, Bool.and_false]
theorem wire_yes (h : 2 ≤ ps.length ∧ ps.length ≤ 48) (h2 : ps.all fin3 = true) : fin cur = wireOk (ps, cl, cur) := by unfold wireOk; rw [decide_eq_true h, h2]; rfl
theorem wire_yes' (h : 2 ≤ ps.length ∧ ps.length ≤ 48) (h2 : ps.all fin3 = true) (h3 : fin cur = true) : true = wireOk (ps, cl, cur) := by rw [← wire_yes h h2, h3]
end
theorem vall_getD {p : V3 → Bool} {vs : List V3} : vs.all p = true ↔ ∀ k, k < vs.length → p (vs.getD k z3) = true := by
  rw [List.all_eq_true]
  constructor
  · intro h k hk
    exact h _ (vmem hk)
  · intro h x hx
    obtain ⟨k, hk, rfl⟩ := List.getElem_of_mem hx
    have := h k hk
    simpa [List.getD, hk] using this
theorem vall_no {p : V3 → Bool} {vs : List V3} {k : Nat} (hk : k < vs.length) (h : p (vs.getD k z3) = false) : vs.all p = false := by
  rw [Bool.eq_false_iff]
  intro ha
  rw [vall_getD.1 ha k hk] at h
  cases h
/-! ### the field -/
def segN (w : Wr) : Nat := if w.2.1 then w.1.length else w.1.length - 1
def segA (w : Wr) (i : Nat) : V3 := w.1.getD i z3
def segB (w : Wr) (i : Nat) : V3 := w.1.getD ((i + 1) % w.1.length) z3
def sumW (w : Wr) (p : V3) : Nat → V3
  | 0 => z3
  | i + 1 => add3 (sumW w p i) (segF (segA w i) (segB w i) p)
def wireF (w : Wr) (p : V3) : V3 := scale3 (sumW w p (segN w)) w.2.2
def sumA (ws : List Wr) (p s0 : V3) : Nat → V3
  | 0 => s0
  | i + 1 => add3 (sumA ws p s0 i) (wireF (ws.getD i zw) p)
/-- The field, as the program makes it. -/
def fieldI (ws : List Wr) (p : V3) : V3 := sumA ws p z3 ws.length
/-- The field, as the reference makes it. -/
def fieldS (ws : List Wr) (p : V3) : V3 := sumA ws p (if fin3 p then z3 else sub3 p p) ws.length
end Go.Proofs.YtmecikeaogjmpaaDoor


namespace Go.Proofs.YtmecikeaogjmpaaDoor
open Go.RowKit

theorem tmod_nat (i n : Nat) : ((i : Int) + 1).tmod (n : Int) = (((i + 1) % n : Nat) : Int) := by
  rw [show ((i : Int) + 1) = ((i + 1 : Nat) : Int) by omega]
  exact (Int.ofNat_tmod _ _).symm
section
variable {P : Program} {n : Nat} {w0 : World} {O : List Ent} {E : Env} {o : Oper}
end
end Go.Proofs.YtmecikeaogjmpaaDoor


namespace Go.Proofs.YtmecikeaogjmpaaDoor
open Go.RowKit

section
variable {x : Nat} {ok : Bool} {s : Nat × Nat × Bool}
end
section
variable {ws : List Wr} {vs : List V3} {way : V3}
end
end Go.Proofs.YtmecikeaogjmpaaDoor


namespace Go.Proofs.YtmecikeaogjmpaaDoor
open Go.RowKit

section
variable {ws : List Wr} {p m : V3} {st : Nat}
end

/-! ### the checked step -/
section
variable {ws : List Wr} {p m : V3} {st : Nat}
end
end Go.Proofs.YtmecikeaogjmpaaDoor


namespace Go.Proofs.YtmecikeaogjmpaaDoor
open Go.RowKit

end Go.Proofs.YtmecikeaogjmpaaDoor


namespace Go.Proofs.YtmecikeaogjmpaaDoor
open Go.RowKit

/-- A number by the scale. -/
def qf (s x : Nat) : Nat := fround (fop .mul .f64 4674736138332667904 (fop .quo .f64 (up x) (up s)))
end Go.Proofs.YtmecikeaogjmpaaDoor


namespace Go.Proofs.YtmecikeaogjmpaaDoor
open Go.RowKit

/-- The address of a part. -/
def slA (a : Option Addr) (l mm z : Nat) : Option Addr := if mm = l then a else a.map (·.add (l * z))
theorem slA_zero {b : Nat} {mm z : Nat} : slA (some ⟨b, 0, none⟩) 0 mm z = some ⟨b, 0, none⟩ := by
  unfold slA; split
  · rfl
  · simp [Addr.add]
theorem Cl.part {w : World} {a : Option Addr} {us : List Value} (h : Cl w a us) {l hh mm z : Nat} (h1 : hh ≤ mm) : Cl w (slA a l mm z) ((us.drop (l * z)).take ((hh - l) * z)) := by
  by_cases hm : mm = l
  · have : hh - l = 0 := by omega
    rw [this, Nat.zero_mul, List.take_zero]
    exact .inl rfl
  · unfold slA
    rw [if_neg hm]
    rcases h with h | ⟨p, rfl, hsp, h⟩
    · subst h; simp; exact .inl rfl
    · refine .inr ⟨p.add (l * z), rfl, ?_, fun i u hu => ?_⟩
      · rw [adr_add hsp]; rfl
      · rw [List.getElem?_take] at hu
        split at hu
        · rw [List.getElem?_drop] at hu
          obtain ⟨v, hv, he⟩ := h _ _ hu
          refine ⟨v, ?_, he⟩
          rw [adr_add hsp]
          simp only [adr]
          rw [show p.off + l * z + i = p.off + (l * z + i) by omega]
          exact hv
        · cases hu
theorem Sees.part {w0 : World} {O : List Ent} {a : Option Addr} {us : List Value} (h : Sees w0 O a us) {l hh mm z : Nat} (h1 : hh ≤ mm) : Sees w0 O (slA a l mm z) ((us.drop (l * z)).take ((hh - l) * z)) := fun w hw => (h w hw).part h1

section
variable {P : Program} {n : Nat} {w0 : World} {O : List Ent} {E : Env} {o : Oper}

/-- A bound of a part: none, or a number. -/
def OptI (E : Env) (x : Option Operand) (d v : Nat) : Prop := (x = none ∧ v = d) ∨ ∃ y k, x = some y ∧ E.opd y = some (.int k (v : Int))
theorem OptI.no {d : Nat} : OptI E none d d := .inl ⟨rfl, rfl⟩
theorem OptI.at {y : Operand} {k : IntKind} {i : Int} {d v : Nat} (h : E.opd y = some (.int k i)) (hi : i = (v : Int)) : OptI E (some y) d v := .inr ⟨y, k, rfl, by rw [h, hi]⟩

theorem run_bound {k : IntKind} {v y : Nat} (h : v ≤ y) (code : BoundsCode) (w : World) : (Instr.sliceBound (.int k (v : Int)) y code).run P w = .ok v w := by
  simp [Instr.sliceBound, asIntOf, h]

theorem yr_slice {t e : TypeId} {x : Operand} {lo hi mx : Option Operand} {a : Option Addr} {m c l hh mm z : Nat} (ho : o.op = .slice t x lo hi mx) (ht : P.underlying t = some (.slice e)) (hz : (P.info? e).map (·.size) = some z)
    (hx : E.opd x = some (.slice a m c)) (hlo : OptI E lo 0 l) (hhi : OptI E hi m hh) (hmx : OptI E mx c mm) (h1 : mm ≤ c) (h2 : hh ≤ mm) (h3 : l ≤ hh) (h4 : mx = none ∨ hi ≠ none) (hmc : hi = none → m ≤ c) :
    YR P E o (.slice (slA a l mm z) (hh - l) (mm - l)) := yr_of fun ρ w hE => by
  have e1 := cn_slice (hE.get (x := x) (by simp [ho, Op.operands]) hx)
  have key : ∀ (y : Option Operand) (d v : Nat), OptI E y d v → (∀ q, y = some q → q ∈ o.op.operands) → (y = none ∧ v = d) ∨ ∃ q k, y = some q ∧ ρ q = .int k (v : Int) := by
    intro y d v hy hm
    rcases hy with h | ⟨q, k, rfl, hq⟩
    · exact .inl h
    · exact .inr ⟨q, k, rfl, cn_int (hE.get (hm q rfl) hq)⟩
  have k1 := key lo 0 l hlo (fun q hq => by subst hq; simp [ho, Op.operands])
  have k2 := key hi m hh hhi (fun q hq => by subst hq; simp [ho, Op.operands])
  have k3 := key mx c mm hmx (fun q hq => by subst hq; simp [ho, Op.operands])
  refine ⟨.slice (slA a l mm z) (hh - l) (mm - l), ?_, rfl⟩
  have hb : ∀ (y d v : Nat) (k : IntKind) (code : BoundsCode), v ≤ y → (Instr.sliceBound (.int k (v : Int)) y code).run P w = .ok v w := fun y d v k code h => run_bound h code w
  rcases k3 with ⟨rfl, rfl⟩ | ⟨q3, t3, rfl, e3⟩
  · rcases k2 with ⟨rfl, rfl⟩ | ⟨q2, t2, rfl, e2⟩
    · rcases k1 with ⟨rfl, rfl⟩ | ⟨q1, t1, rfl, e1'⟩
      · simp [execOp, ho, e1, Instr.sliceAt, Instr.slice, Instr.sliceBounds, run_underlying ht, info_size hz, slA]
      · simp [execOp, ho, e1, e1', Instr.sliceAt, Instr.slice, Instr.sliceBounds, run_underlying ht, info_size hz, run_bound h3, slA]
    · rcases k1 with ⟨rfl, rfl⟩ | ⟨q1, t1, rfl, e1'⟩
      · simp [execOp, ho, e1, e2, Instr.sliceAt, Instr.slice, Instr.sliceBounds, run_underlying ht, info_size hz, run_bound h2, slA]
      · simp [execOp, ho, e1, e2, e1', Instr.sliceAt, Instr.slice, Instr.sliceBounds, run_underlying ht, info_size hz, run_bound h2, run_bound h3, slA]
  · rcases k2 with ⟨rfl, rfl⟩ | ⟨q2, t2, rfl, e2⟩
    · rcases h4 with h | h
      · cases h
      · exact absurd rfl h
    · rcases k1 with ⟨rfl, rfl⟩ | ⟨q1, t1, rfl, e1'⟩
      · simp [execOp, ho, e1, e2, e3, Instr.sliceAt, Instr.slice, Instr.sliceBounds, run_underlying ht, info_size hz, run_bound h1, run_bound h2, slA]
      · simp [execOp, ho, e1, e2, e3, e1', Instr.sliceAt, Instr.slice, Instr.sliceBounds, run_underlying ht, info_size hz, run_bound h1, run_bound h2, run_bound h3, slA]

/-- A row of cells is written into a block that is known. -/
theorem Hp.write {A B : List Ent} {a : Option Addr} {us : List Value} {cap : Nat} {ty : TypeId} {w : World} (hw : Hp w0 (A ++ ⟨a, us, cap, ty⟩ :: B) w) (vs : List Value) (k : Nat) (hs : vs.all scal = true) (hk : k + vs.length ≤ us.length) (hne : vs ≠ []) :
    ∃ w', (storeCells (adr a k) vs).run P w = .ok () w' ∧ Hp w0 (A ++ ⟨a, setAt us k (vs.map cn), cap, ty⟩ :: B) w' := by
  have hent := hw.ents ⟨a, us, cap, ty⟩ (by simp)
  have hl : 0 < vs.length := List.length_pos_iff.2 hne
  have hcap : cap ≠ 0 := by
    rcases hent with h | ⟨_, _, _, _, _, _, h5, _⟩
    · have := h.1; simp only at this; subst this; simp only [List.length_nil] at hk; omega
    · simp only at h5; omega
  obtain ⟨b0, hb0, hge⟩ := hent.addr hcap
  obtain ⟨b, w', r1, r2, r3, r4⟩ := run_storeCells_ent (P := P) vs us 0 k w a cap ty hs (by omega) hent
  have hbb : b = b0 := by
    have := r2 hne
    simp only at hb0
    rw [this] at hb0
    simpa using hb0
  subst hbb
  refine ⟨w', r1, ?_⟩
  simp only [Nat.add_zero] at r4
  exact Hp.turn hw (fun _ => ⟨_, hb0, rfl⟩) hge (fun h => absurd h hcap) r3 r4 (fun _ p hp => .inl (by simp only at hp hb0; rw [hb0] at hp; cases hp; rfl))

/-! ### bits of unsigned numbers -/
theorem yr_bits {op : BinOp} {t ty : TypeId} {x y : Operand} {k : IntKind} {a b r : Int} (ho : o.op = .binOp op t x y ty) (hx : E.opd x = some (.int k a)) (hy : E.opd y = some (.int k b))
    (hr : (op = .and ∧ k.wrap (((a % 2 ^ k.bits).toNat &&& (b % 2 ^ k.bits).toNat : Nat) : Int) = r) ∨ (op = .or ∧ k.wrap (((a % 2 ^ k.bits).toNat ||| (b % 2 ^ k.bits).toNat : Nat) : Int) = r)) : YR P E o (.int k r) := yr_of fun ρ w hE => by
  have h1 := cn_int (hE.get (x := x) (by simp [ho, Op.operands]) hx)
  have h2 := cn_int (hE.get (x := y) (by simp [ho, Op.operands]) hy)
  refine ⟨.int k r, ?_, rfl⟩
  rcases hr with ⟨rfl, hr⟩ | ⟨rfl, hr⟩ <;> simp [execOp, ho, h1, h2, eqGuard, binOp, Op.intBits, hr]
theorem yr_shr {t ty : TypeId} {x y : Operand} {k k2 : IntKind} {a r : Int} {b : Nat} (ho : o.op = .binOp .shr t x y ty) (hx : E.opd x = some (.int k a)) (hy : E.opd y = some (.int k2 (b : Int)))
    (hr : a.fdiv (2 ^ (min b k.bits)) = r) : YR P E o (.int k r) := yr_of fun ρ w hE => by
  have h1 := cn_int (hE.get (x := x) (by simp [ho, Op.operands]) hx)
  have h2 := cn_int (hE.get (x := y) (by simp [ho, Op.operands]) hy)
  refine ⟨.int k r, ?_, rfl⟩
  have h3 : ¬ ((b : Int) < 0) := by omega
  simp [execOp, ho, h1, h2, eqGuard, binOp, Op.shift, h3, hr]
/-! ### parts of a block of the call's own -/
theorem yr_head {t e : TypeId} {x y : Operand} {b m c l z : Nat} {k : IntKind} {i : Int} (ho : o.op = .slice t x none (some y) none) (ht : P.underlying t = some (.slice e)) (hz : (P.info? e).map (·.size) = some z)
    (hx : E.opd x = some (.slice (some ⟨b, 0, none⟩) m c)) (hy : E.opd y = some (.int k i)) (hi : i = (l : Int)) (hl : l ≤ c) : YR P E o (.slice (some ⟨b, 0, none⟩) l c) := by
  have h := yr_slice (P := P) (E := E) ho ht hz hx .no (.at hy hi) .no (Nat.le_refl _) hl (Nat.zero_le _) (.inl rfl) (fun h => by cases h)
  rwa [slA_zero] at h
theorem Sees.take {a : Option Addr} {us : List Value} (q : Nat) (h : Sees w0 O a us) : Sees w0 O a (us.take q) := fun w hw => (h w hw).sub _ (fun i u hu => by
  rw [List.getElem?_take] at hu
  split at hu
  · exact hu
  · cases hu)
theorem Sees.drop {b : Nat} {us : List Value} (q : Nat) (h : Sees w0 O (some ⟨b, 0, none⟩) us) : Sees w0 O (some (adr (some ⟨b, 0, none⟩) q)) (us.drop q) := fun w hw => by
  rcases h w hw with h | ⟨p, hp, hsp, h⟩
  · subst h; simp; exact .inl rfl
  · cases hp
    refine .inr ⟨_, rfl, rfl, fun i u hu => ?_⟩
    rw [List.getElem?_drop] at hu
    obtain ⟨v, hv, he⟩ := h _ _ hu
    refine ⟨v, ?_, he⟩
    simp only [adr, Nat.zero_add] at hv ⊢
    exact hv
/-- A block that is known lies at the head of a block. -/
theorem VX.addr {a : Option Addr} {us : List Value} {cap : Nat} {ty : TypeId} {R : Act → World → Prop} (hm : (⟨a, us, cap, ty⟩ : Ent) ∈ O) (hc : us ≠ []) (h : ∀ b, a = some ⟨b, 0, none⟩ → us.length ≤ cap → VX n w0 O E R) : VX n w0 O E R := by
  intro act w ha hw
  rcases hw.ents _ hm with h1 | ⟨b, c, h1, _, _, _, h5, _⟩
  · exact absurd h1.1 hc
  · exact h b h1 h5 act w ha hw
end
theorem wrapu {i : Int} (h0 : 0 ≤ i) (h : i ≤ 18446744073709551615) : IntKind.u64.wrap i = i := by
  unfold IntKind.wrap
  simp [IntKind.bits, IntKind.signed]
  omega
end Go.Proofs.YtmecikeaogjmpaaDoor


namespace Go.Proofs.YtmecikeaogjmpaaDoor
open Go.RowKit

/-- bytes in memory; a text of bytes -/
def bl (bs : List Int) : List Value := bs.map (Value.int .u8)
def stb (bs : List Int) : ByteArray := ⟨(bs.map fun n => UInt8.ofNat n.toNat).toArray⟩
theorem bl_length (bs : List Int) : (bl bs).length = bs.length := by simp [bl]
theorem bl_scal (bs : List Int) : (bl bs).all scal = true := by
  rw [List.all_eq_true]
  intro v hv
  obtain ⟨b, _, rfl⟩ := List.mem_map.1 hv
  rfl
theorem bl_append (xs ys : List Int) : bl xs ++ bl ys = bl (xs ++ ys) := by simp [bl]
theorem stb_size (bs : List Int) : (stb bs).size = bs.length := by simp [stb, ByteArray.size]

theorem pushes (bs : List Int) : ∀ s : ByteArray, bs.foldl (fun r n => r.push (UInt8.ofNat n.toNat)) s = ⟨s.data ++ (bs.map fun n => UInt8.ofNat n.toNat).toArray⟩ := by
  induction bs with
  | nil => intro s; simp
  | cons b bs ih =>
    intro s
    rw [List.foldl_cons, ih]
    simp [ByteArray.push]

/-- two texts compared -/
def scmp (op : BinOp) (a b : ByteArray) : Bool := match op with | .eql => a.toList == b.toList | _ => !(a.toList == b.toList)
@[simp] theorem scmp_ne_self (a : ByteArray) : scmp .neq a a = false := by simp [scmp]
@[simp] theorem scmp_eq_self (a : ByteArray) : scmp .eql a a = true := by simp [scmp]
section
variable {P : Program} {w0 : World} {O : List Ent} {E : Env} {o : Oper}
theorem yr_scmp {op : BinOp} {t ty : TypeId} {x y : Operand} {a b : ByteArray} (ho : o.op = .binOp op t x y ty) (hx : E.opd x = some (.string a)) (hy : E.opd y = some (.string b)) (hop : op = .eql ∨ op = .neq) : YR P E o (.bool (scmp op a b)) := yr_of fun ρ w hE => by
  have h1 := cn_string (hE.get (x := x) (by simp [ho, Op.operands]) hx)
  have h2 := cn_string (hE.get (x := y) (by simp [ho, Op.operands]) hy)
  refine ⟨.bool (scmp op a b), ?_, rfl⟩
  rcases hop with rfl | rfl <;> simp [execOp, ho, h1, h2, eqGuard, binOp, Op.stringOp, scmp]
/-- string(bytes) -/
theorem yq_bts {src dst e : TypeId} {x : Operand} {a : Option Addr} {m c : Nat} {bs : List Int} (ho : o.op = .convert src dst x) (hs : P.underlying src = some (.slice e)) (he : P.underlying e = some (.int .u8)) (hd : P.underlying dst = some .string)
    (hx : E.opd x = some (.slice a m c)) (hsee : Sees w0 O a (bl bs)) (hm : m = bs.length) : YQ P w0 O E o (.string (stb bs)) := by
  subst hm
  intro ρ w hE hw
  have e1 := cn_slice (hE.get (x := x) (by simp [ho, Op.operands]) hx)
  have key : (Conv.bytesToString (.slice a bs.length c)).run P w = .ok (.string (stb bs)) w := by
    cases bs with
    | nil =>
      cases a with
      | none => simp [Conv.bytesToString, stb]; rfl
      | some p =>
        have h0 : (Conv.bytesToString (.slice (some p) 0 c)).run P w = _ := run_bytesToString w p 0 c [] (by simp [loadCells, loadCellsFrom])
        exact h0
    | cons b bs =>
      rcases hsee w hw with h | ⟨p, rfl, hsp, h⟩
      · cases h
      · have hcl : Cl w (some p) (bl (b :: bs)) := .inr ⟨p, rfl, hsp, h⟩
        obtain ⟨vs, h1, h2, h3⟩ := hcl.cellsN (bl (b :: bs)) 0 (fun j u hj => by simpa using hj)
        have hvs : vs = (bl (b :: bs)) := by
          apply List.ext_getElem?
          intro j
          have h4 := congrArg (fun l => l[j]?) h3
          simp only [List.getElem?_map] at h4
          cases hv : vs[j]? with
          | none => rw [hv] at h4; simpa using h4
          | some v =>
            rw [hv] at h4
            simp only [Option.map_some, bl, List.getElem?_map] at h4 ⊢
            cases hb : (b :: bs)[j]? with
            | none => rw [hb] at h4; cases h4
            | some y =>
              rw [hb] at h4
              simp only [Option.map_some, Option.some.injEq] at h4 ⊢
              exact cn_int h4
        have hload := run_loadCells_adr (P := P) (w := w) (a := some p) (k := 0) vs h2
        have hp : adr (some p) 0 = p := by
          obtain ⟨pb, po, ps⟩ := p
          simp only at hsp
          subst hsp
          simp [adr]
        rw [hp, h1, bl_length] at hload
        have hl' : (loadCells p (b :: bs).length).run P w = .ok ((b :: bs).map (Value.int .u8)).toArray w := by
          rw [hload, hvs]; rfl
        rw [run_bytesToString w p _ c _ hl', pushes]
        simp [stb]
  have hr : (execOp ρ o).run P w = .ok (.value (.string (stb bs))) w := by
    simp [execOp, ho, e1, run_convert_bytes_string w src dst e a _ c hs he hd, key]
  rw [hr]
  exact ⟨by simp [cn, cn1, cn0], Below.refl _ _⟩

end
end Go.Proofs.YtmecikeaogjmpaaDoor


namespace Go.Proofs.YtmecikeaogjmpaaDoor
open Go.RowKit

def szOk (wi hi de : Int) : Bool := decide (1 ≤ wi ∧ wi ≤ 216) && decide (1 ≤ hi ∧ hi ≤ 216) && decide (1 ≤ de ∧ de ≤ 216) && decide (wi * hi * de ≤ 216)
def meshOk (f : V3) (st : Nat) (wi hi de : Int) (n : Nat) : Bool := fin3 f && above st && szOk wi hi de && decide ((n : Int) = wi * hi * de)
section
variable {wi hi de : Int} {f : V3} {st n : Nat}
end

/-! ### nodes in order -/
section
variable {W H D x y z j : Nat}
end

section
variable {P : Program} {n : Nat} {w0 : World} {O : List Ent} {E : Env} {o : Oper}
theorem yr_addN {t ty : TypeId} {x y : Operand} {a b : Int} (r : Nat) (ho : o.op = .binOp .add t x y ty) (hx : E.opd x = some (.int .i64 a)) (hy : E.opd y = some (.int .i64 b)) (h : a + b = (r : Int)) (hb : r ≤ 9223372036854775807) : YR P E o (.int .i64 (r : Int)) := by
  rw [← h]
  exact yr_int ho hx hy (.inl ⟨rfl, wrap_in (by omega)⟩)
theorem Pick.e4 {O1 O2 O3 F : List Ent} {e1 e2 e3 e4 : Ent} (h1 : Rem O [e1] O1) (h2 : Rem O1 [e2] O2) (h3 : Rem O2 [e3] O3) (h4 : Rem O3 [e4] F) : Pick O [e1, e2, e3, e4] F := Pick.take h1 (Pick.take h2 (Pick.take h3 (Pick.take h4 .nil)))
end

/-! ### places, values -/
section
variable {vs : List V3} {W H D tw x y z j k a b : Nat}
end
section
variable {f : V3} {st : Nat} {wi hi de : Int} {vs : List V3}
end
end Go.Proofs.YtmecikeaogjmpaaDoor


namespace Go.Proofs.YtmecikeaogjmpaaDoor
open Go.RowKit

/-- The greater of what it was and the number without its sign. -/
def scN (s x : Nat) : Nat := if fcmp .gtr .f32 (fabs .f32 x) s then fabs .f32 x else s
section
variable {P : Program} {E : Env} {o : Oper}
end
end Go.Proofs.YtmecikeaogjmpaaDoor


namespace Go.Proofs.YtmecikeaogjmpaaDoor
open Go.RowKit

/-! ### bytes -/
def w8 (i : Int) : Int := IntKind.u8.wrap i
def four (x : Nat) : List Int := [w8 (x : Int), w8 ((x / 256 : Nat) : Int), w8 ((x / 65536 : Nat) : Int), w8 ((x / 16777216 : Nat) : Int)]
/-! ### the text of a mesh -/
def num (vs : List V3) (k : Nat) : Nat := if k % 3 = 0 then (vs.getD (k / 3) z3).1 else if k % 3 = 1 then (vs.getD (k / 3) z3).2.1 else (vs.getD (k / 3) z3).2.2
def scU (vs : List V3) : Nat → Nat
  | 0 => 0
  | k + 1 => scN (scU vs k) (num vs k)
def allF (vs : List V3) : Nat → Bool
  | 0 => true
  | k + 1 => allF vs k && fin (num vs k)
def qI (s x : Nat) : Int := (floatToIntVal .f64 (qf s x) .i64).getD 0
def qz (s x : Nat) : Int := if fcmp .gtr .f32 s 0 then qI s x else 0
def bodyU (vs : List V3) (s : Nat) : Nat → List Int
  | 0 => []
  | k + 1 => bodyU vs s k ++ [w8 (qz s (num vs k)), w8 ((qz s (num vs k)).fdiv 256)]
def topL (f : V3) (st : Nat) (wi hi de : Int) (s : Nat) : List Int := [77, 83, 72, 49] ++ [w8 wi, w8 hi, w8 de] ++ four f.1 ++ four f.2.1 ++ four f.2.2 ++ four st ++ four s
def pkL (f : V3) (st : Nat) (wi hi de : Int) (vs : List V3) : List Int := topL f st wi hi de (scU vs (vs.length * 3)) ++ bodyU vs (scU vs (vs.length * 3)) (vs.length * 3)
section
variable {vs : List V3} {k j s : Nat}
end
section
variable {f : V3} {st : Nat} {wi hi de : Int} {vs : List V3}
end
/-! ### words for the walks -/
section
variable {vs : List V3} {k i j p s : Nat}
end
end Go.Proofs.YtmecikeaogjmpaaDoor


namespace Go.Proofs.YtmecikeaogjmpaaDoor
open Go.RowKit

end Go.Proofs.YtmecikeaogjmpaaDoor


namespace Go.Proofs.YtmecikeaogjmpaaDoor
open Go.RowKit

def r1 : Nat := 4607182418800017408
end Go.Proofs.YtmecikeaogjmpaaDoor


namespace Go.Proofs.YtmecikeaogjmpaaDoor
open Go.RowKit

def rw5 : Nat := 4674736138332667904
end Go.Proofs.YtmecikeaogjmpaaDoor


namespace Go.Proofs.YtmecikeaogjmpaaDoor
open Go.RowKit

section
variable {P : Program} {n : Nat} {w0 : World} {O : List Ent} {E : Env} {o : Oper}
theorem int_arg {vs : Array Value} {k : IntKind} {x : Int} (h : vs.toList.map cn = [.int k x]) : vs = #[.int k x] := by
  have hl : vs.toList.length = 1 := by have := congrArg List.length h; simpa using this
  obtain ⟨l⟩ := vs
  match l, hl with
  | [v], _ =>
    simp only [List.map_cons, List.map_nil, List.cons.injEq, and_true] at h
    rw [cn_int h]
theorem ext_from64 (vs : Array Value) (w : World) {x : Nat} (h : vs.toList.map cn = [.int .u64 (x : Int)]) : ∃ v w', (Extern.MathFloatBits.float64frombits vs).run P w = .ok v w' ∧ cn v = .float .f64 (cb .f64 x) ∧ Below w.heap.size w w' := by
  rw [int_arg h]
  exact ⟨.float .f64 x, w, rfl, rfl, Below.refl _ _⟩
theorem ext_from32 (vs : Array Value) (w : World) {x : Nat} (h : vs.toList.map cn = [.int .u32 (x : Int)]) : ∃ v w', (Extern.MathFloatBits.float32frombits vs).run P w = .ok v w' ∧ cn v = .float .f32 (cb .f32 x) ∧ Below w.heap.size w w' := by
  rw [int_arg h]
  exact ⟨.float .f32 x, w, rfl, rfl, Below.refl _ _⟩
end

end Go.Proofs.YtmecikeaogjmpaaDoor


namespace Go.Proofs.YtmecikeaogjmpaaDoor
open Go.RowKit

/-- the byte at a place -/
def sb (s : ByteArray) (i : Nat) : Nat := ((s.data[i]?).getD 0).toNat
theorem sb_lt (s : ByteArray) (i : Nat) : sb s i < 256 := UInt8.toNat_lt _
theorem extract_size {s : ByteArray} {l h : Nat} (h2 : h ≤ s.size) : (s.extract l h).size = h - l := by
  rw [ByteArray.size_extract, Nat.min_eq_left h2]
section
variable {P : Program} {w0 : World} {O : List Ent} {E : Env} {o : Oper}
theorem yr_strPart {t : TypeId} {x : Operand} {lo hi : Option Operand} {s : ByteArray} {l h : Nat} (ho : o.op = .slice t x lo hi none) (ht : P.underlying t = some .string) (hx : E.opd x = some (.string s)) (hlo : OptI E lo 0 l) (hhi : OptI E hi s.size h) (h1 : l ≤ h) (h2 : h ≤ s.size) : YR P E o (.string (s.extract l h)) := yr_of fun ρ w hE => by
  have e1 := cn_string (hE.get (x := x) (by simp [ho, Op.operands]) hx)
  have key : ∀ (y : Option Operand) (d v : Nat), OptI E y d v → (∀ q, y = some q → q ∈ o.op.operands) → (y = none ∧ v = d) ∨ ∃ q k, y = some q ∧ ρ q = .int k (v : Int) := by
    intro y d v hy hm
    rcases hy with h | ⟨q, k, rfl, hq⟩
    · exact .inl h
    · exact .inr ⟨q, k, rfl, cn_int (hE.get (hm q rfl) hq)⟩
  have k1 := key lo 0 l hlo (fun q hq => by subst hq; simp [ho, Op.operands])
  have k2 := key hi s.size h hhi (fun q hq => by subst hq; simp [ho, Op.operands])
  refine ⟨.string (s.extract l h), ?_, rfl⟩
  rcases k2 with ⟨rfl, rfl⟩ | ⟨q2, t2, rfl, e2⟩
  · rcases k1 with ⟨rfl, rfl⟩ | ⟨q1, t1, rfl, e3⟩
    · simp [execOp, ho, e1, Instr.sliceAt, Instr.slice, Instr.sliceBounds, run_underlying ht]
    · simp [execOp, ho, e1, e3, Instr.sliceAt, Instr.slice, Instr.sliceBounds, run_underlying ht, run_bound h1]
  · rcases k1 with ⟨rfl, rfl⟩ | ⟨q1, t1, rfl, e3⟩
    · simp [execOp, ho, e1, e2, Instr.sliceAt, Instr.slice, Instr.sliceBounds, run_underlying ht, run_bound h2]
    · simp [execOp, ho, e1, e2, e3, Instr.sliceAt, Instr.slice, Instr.sliceBounds, run_underlying ht, run_bound h1, run_bound h2]
theorem yr_strByte {t : TypeId} {x y : Operand} {s : ByteArray} {k : IntKind} {i : Nat} {j : Int} (ho : o.op = .index t x y) (ht : P.underlying t = some .string) (hx : E.opd x = some (.string s)) (hy : E.opd y = some (.int k j)) (hj : j = (i : Int)) (hi : i < s.size) : YR P E o (.int .u8 (sb s i : Int)) := yr_of fun ρ w hE => by
  subst hj
  have e1 := cn_string (hE.get (x := x) (by simp [ho, Op.operands]) hx)
  have e2 := cn_int (hE.get (x := y) (by simp [ho, Op.operands]) hy)
  refine ⟨.int .u8 (sb s i : Int), ?_, rfl⟩
  have hi' : i < s.data.size := hi
  have hb : (s[i]?).map (·.toNat) = some (sb s i) := by
    unfold sb
    rw [Array.getElem?_eq_getElem hi']
    rw [getElem?_pos s i hi]
    rfl
  cases hs : s[i]? with
  | none => rw [hs] at hb; cases hb
  | some b =>
    rw [hs] at hb
    simp only [Option.map_some, Option.some.injEq] at hb
    simp [execOp, ho, e1, e2, Instr.index, asIntOf, run_underlying ht, hs, hb]
end
/-! ### numbers of bytes -/
def rd2 (s : ByteArray) (p : Nat) : Nat := sb s p + sb s (p + 1) * 256
def rd4 (s : ByteArray) (p : Nat) : Nat := sb s p + sb s (p + 1) * 256 + sb s (p + 2) * 65536 + sb s (p + 3) * 16777216
end Go.Proofs.YtmecikeaogjmpaaDoor


namespace Go.Proofs.YtmecikeaogjmpaaDoor
open Go.RowKit

/-- A number that is unpacked, before it is narrowed. -/
def unX (s : Nat) (q : Int) : Nat := fop .mul .f64 (up s) (fop .quo .f64 (FloatKind.f64.nearest q) rw5)
end Go.Proofs.YtmecikeaogjmpaaDoor


namespace Go.Proofs.YtmecikeaogjmpaaDoor
open Go.RowKit

/-- What comes of narrowing the double a. -/
def Nar (a v : Nat) : Prop := Can .f32 v ∧ (fover .f64 .f32 a = false → v = fconv .f64 .f32 a)
section
variable {P : Program} {w0 : World} {O : List Ent} {E : Env} {o : Oper}
theorem yn_narrow {src dst : TypeId} {x : Operand} {a : Nat} (ho : o.op = .convert src dst x) (hs : P.underlying src = some (.float .f64)) (hd : P.underlying dst = some (.float .f32)) (hx : E.opd x = some (.float .f64 a)) :
    YN P w0 O E o (fun v : {v : Nat // Nar a v} => .float .f32 v.1) (fun _ => []) := by
  intro ρ w hE hw
  cases hv : fover .f64 .f32 a with
  | false =>
    refine (yr_fconv (P := P) ho hs hd (by decide) hx hv ρ w hE).mono fun v w' ⟨h1, h2⟩ => ?_
    exact ⟨⟨fconv .f64 .f32 a, ⟨cb_fconv _ _ _ (by decide), fconv_lt _ _ _ (by decide)⟩, fun _ => rfl⟩, h1, h2, (fun _ hf => by cases hf), List.Pairwise.nil⟩
  | true =>
    obtain ⟨a', h1, rfl⟩ := cn_float (hE.get (x := x) (by simp [ho, Op.operands]) hx)
    have hv' := hv
    rw [fover_cb] at hv
    unfold fover at hv
    rw [if_neg (by decide)] at hv
    cases hr : FloatKind.f64.decode a' with
    | nan sg f => rw [hr] at hv; cases hv
    | infinity sg => rw [hr] at hv; cases hv
    | number sg m e =>
      rw [hr] at hv
      simp only at hv
      have hrun : (execOp ρ o).run P w = .ok (.value (.float .f32 ((Question.floatToFloat a').cut (w.tape w.drawn (.floatToFloat a'))))) { w with drawn := w.drawn + 1 } := by
        simp [execOp, ho, convert, run_underlying hs, run_underlying hd, h1, Conv.floatToFloat, hr, hv, choose, Sem.run, Question.forced]
      rw [hrun]
      have hlt : (Question.floatToFloat a').cut (w.tape w.drawn (.floatToFloat a')) < 2 ^ 32 := Nat.mod_lt _ (by decide)
      exact ⟨⟨cb .f32 ((Question.floatToFloat a').cut (w.tape w.drawn (.floatToFloat a'))), can_cb .f32 hlt, fun h => by rw [hv'] at h; cases h⟩, by simp [cn, cn1, cn0], below_drew _ _, (fun _ hf => by cases hf), List.Pairwise.nil⟩
end
end Go.Proofs.YtmecikeaogjmpaaDoor


namespace Go.Proofs.YtmecikeaogjmpaaDoor
open Go.RowKit

section
variable {f : V3} {st : Nat} {wi hi de : Int} {vs : List V3} {k : Nat}
end
/-- sixteen bits as a number with a sign -/
def q16 (n : Nat) : Int := if n ≤ 32767 then (n : Int) else (n : Int) - 65536
end Go.Proofs.YtmecikeaogjmpaaDoor


namespace Go.Proofs.YtmecikeaogjmpaaDoor
open Go.RowKit

end Go.Proofs.YtmecikeaogjmpaaDoor


namespace Go.Proofs.YtmecikeaogjmpaaDoor
open Go.RowKit

section
variable {f : V3} {st : Nat} {wi hi de : Int} {vs us : List V3} {k : Nat} {s : ByteArray}
end
end Go.Proofs.YtmecikeaogjmpaaDoor


namespace Go.Proofs.YtmecikeaogjmpaaDoor
open Go.RowKit

/-- The k-th number of a text. -/
def unV (s : ByteArray) (k : Nat) : Nat := fconv .f64 .f32 (unX (rd4 s 23) (q16 (rd2 s (27 + k * 2))))
def unL (s : ByteArray) (n : Nat) : List V3 := (List.range n).map fun i => (unV s (i * 3), unV s (i * 3 + 1), unV s (i * 3 + 2))
section
variable {f : V3} {st : Nat} {wi hi de : Int} {vs : List V3} {s : ByteArray}
end
section
variable {f : V3} {st : Nat} {wi hi de : Int} {vs : List V3} {s : ByteArray} {n : Nat}
end
end Go.Proofs.YtmecikeaogjmpaaDoor


namespace Go.Proofs.YtmecikeaogjmpaaDoor
open Go.RowKit

def mshText : ByteArray := ⟨#[77, 83, 72, 49]⟩
def unN (s : ByteArray) : Nat := sb s 4 * sb s 5 * sb s 6
def unF (s : ByteArray) : V3 := (cb .f32 (rd4 s 7), cb .f32 (rd4 s 11), cb .f32 (rd4 s 15))
def unSt (s : ByteArray) : Nat := cb .f32 (rd4 s 19)
def unPk (s : ByteArray) (vs : List V3) : ByteArray := stb (pkL (unF s) (unSt s) (sb s 4 : Int) (sb s 5 : Int) (sb s 6 : Int) vs)
def unMs (s : ByteArray) : Bool := meshOk (unF s) (unSt s) (sb s 4 : Int) (sb s 5 : Int) (sb s 6 : Int) (unN s)
def unPre (s : ByteArray) : Bool := decide (27 ≤ s.size) && scmp .eql (s.extract 0 4) mshText && decide (unN s ≤ 216) && decide (s.size = 27 + 6 * unN s) && unMs s
def unOk (s : ByteArray) : Bool := unPre s && allF (unL s (unN s)) (unN s * 3) && scmp .eql (unPk s (unL s (unN s))) s
section
variable {s : ByteArray} {i : Nat}
end
section
variable {s : ByteArray} {vs : List V3}
end
/-! ### adding to nothing -/
end Go.Proofs.YtmecikeaogjmpaaDoor


namespace Go.Proofs.YtmecikeaogjmpaaDoor
open Go.RowKit
section
variable {s : ByteArray} {j k i : Nat} {v w : V3} {vs : List V3}
end
section
variable {P : Program} {w0 : World} {O : List Ent} {E : Env} {o : Oper} {s : ByteArray}
end
theorem Pick.e6 {O O1 O2 O3 O4 O5 F : List Ent} {e1 e2 e3 e4 e5 e6 : Ent} (h1 : Rem O [e1] O1) (h2 : Rem O1 [e2] O2) (h3 : Rem O2 [e3] O3) (h4 : Rem O3 [e4] O4) (h5 : Rem O4 [e5] O5) (h6 : Rem O5 [e6] F) : Pick O [e1, e2, e3, e4, e5, e6] F := Pick.take h1 (Pick.take h2 (Pick.take h3 (Pick.take h4 (Pick.take h5 (Pick.take h6 .nil)))))
theorem Hp.nilU {w0 w : World} {O : List Ent} (h : Hp w0 O w) (t : TypeId) : Hp w0 (⟨none, [], 0, t⟩ :: O) w :=
  h.new (Below.refl _ _) (.inl ⟨rfl, rfl⟩)

/-! ### limits -/
/-- A mesh that may be none. -/
structure MX where
  f : V3
  st : Nat
  wi : Int
  hi : Int
  de : Int
  ar : Option Addr
  cr : Nat
  vs : List V3
def MX.is (s : ByteArray) (x : MX) : Prop := unOk s = true → x.f = unF s ∧ x.st = unSt s ∧ x.wi = (sb s 4 : Int) ∧ x.hi = (sb s 5 : Int) ∧ x.de = (sb s 6 : Int) ∧ x.vs = unL s (unN s)
def MX.v (x : MX) : Value := .agg #[.float .f32 x.f.1, .float .f32 x.f.2.1, .float .f32 x.f.2.2, .float .f32 x.st, .int .i64 x.wi, .int .i64 x.hi, .int .i64 x.de, .slice x.ar x.vs.length x.cr]
def MX.none : MX := ⟨z3, 0, 0, 0, 0, Option.none, 0, []⟩
end Go.Proofs.YtmecikeaogjmpaaDoor


namespace Go.Proofs.YtmecikeaogjmpaaDoor
open Go.RowKit

section
variable {P : Program} {E : Env} {o : Oper}
end
end Go.Proofs.YtmecikeaogjmpaaDoor


namespace Go.Proofs.YtmecikeaogjmpaaDoor
open Go.RowKit

/-- A quarter: (k - 8) / 4. -/
def qw (k : Nat) : Nat := fop .quo .f32 (FloatKind.f32.nearest ((k : Int) - 8)) 1082130432
def dst (k : Nat) : Nat := if 8 ≤ k then k - 8 else 8 - k
end Go.Proofs.YtmecikeaogjmpaaDoor


namespace Go.Proofs.YtmecikeaogjmpaaDoor
open Go.RowKit

theorem bl_get {bs : List Int} {k : Nat} (h : k < bs.length) : (bl bs)[k]? = some (.int .u8 (bs.getD k 0)) := by
  simp [bl, List.getD, h]
def Bytes (bs : List Int) : Prop := ∀ b ∈ bs, 0 ≤ b ∧ b < 256
theorem byte_get {bs : List Int} {k : Nat} (hb : Bytes bs) (h : k < bs.length) : 0 ≤ bs.getD k 0 ∧ bs.getD k 0 < 256 := by
  have : bs.getD k 0 = bs[k] := by simp [List.getD, h]
  rw [this]; exact hb _ (List.getElem_mem h)
def uw (z : Int) : Nat := (IntKind.u64.wrap z).toNat
theorem u64_wrap (z : Int) : IntKind.u64.wrap z = z % 18446744073709551616 := by
  unfold IntKind.wrap; simp [IntKind.signed, IntKind.bits]
theorem u64_to (z : Int) : IntKind.u64.wrap z = ((uw z : Nat) : Int) := by unfold uw; rw [u64_wrap]; omega
theorem uw_lt (z : Int) : uw z < 18446744073709551616 := by unfold uw; rw [u64_wrap]; omega
theorem and255u (q : Int) : IntKind.u64.wrap (((q % 2 ^ IntKind.u64.bits).toNat &&& ((255 : Int) % 2 ^ IntKind.u64.bits).toNat : Nat) : Int) = (((q % 256).toNat : Nat) : Int) := by
  have e1 : ((255 : Int) % 2 ^ IntKind.u64.bits).toNat = 2 ^ 8 - 1 := by decide
  have e2 : (2 : Int) ^ IntKind.u64.bits = 18446744073709551616 := by decide
  rw [e1, Nat.and_two_pow_sub_one_eq_mod, e2, u64_wrap]
  have e3 : (((q % 18446744073709551616).toNat % 2 ^ 8 : Nat) : Int) = q % 256 := by
    rw [show (2 : Nat) ^ 8 = 256 from rfl]; omega
  rw [e3]; omega
/-- A drawn mesh of quarters. -/
structure DM where
  k : Nat
  W : Nat
  H : Nat
  D : Nat
  ar : Option Addr
  cr : Nat
  vs : List V3
def hqw (k : Nat) : Nat := fop .quo .f32 (FloatKind.f32.nearest ((k : Int) - 4)) 1073741824
def Q3 (v : V3) : Prop := ∃ i j l : Nat, (i < 17 ∧ j < 17 ∧ l < 17) ∧ v = (qw i, qw j, qw l)
def DM.ok (x : DM) : Prop := x.k < 9 ∧ (1 ≤ x.W ∧ x.W ≤ 4) ∧ (1 ≤ x.H ∧ x.H ≤ 4) ∧ (1 ≤ x.D ∧ x.D ≤ 3) ∧ x.vs.length = x.W * x.H * x.D ∧ ∀ v ∈ x.vs, Q3 v
def DM.v (x : DM) : Value := .agg #[.float .f32 (hqw x.k), .float .f32 0, .float .f32 0, .float .f32 1056964608, .int .i64 (x.W : Int), .int .i64 (x.H : Int), .int .i64 (x.D : Int), .slice x.ar x.vs.length x.cr]
/-! ### picking out of what is owned -/
section
variable {P : Program} {w0 : World} {E : Env} {o : Oper}
theorem Pick.cons1 {O O1 M F : List Ent} {e : Ent} (h1 : Rem O [e] O1) (h2 : Pick O1 M F) : Pick O (e :: M) F := Pick.take h1 h2
theorem Pick.app1 {O S O1 M F : List Ent} (h1 : Rem O S O1) (h2 : Pick O1 M F) : Pick O (S ++ M) F := Pick.take h1 h2
theorem Pick.last {O S O1 : List Ent} (h1 : Rem O S O1) : Pick O S O1 := by simpa using Pick.take h1 .nil
theorem Pick.e2 {O O1 F : List Ent} {e1 e2 : Ent} (h1 : Rem O [e1] O1) (h2 : Rem O1 [e2] F) : Pick O [e1, e2] F := Pick.take h1 (Pick.take h2 .nil)
theorem Pick.e3x {O O1 O2 F : List Ent} {e1 e2 e3 : Ent} (h1 : Rem O [e1] O1) (h2 : Rem O1 [e2] O2) (h3 : Rem O2 [e3] F) : Pick O [e1, e2, e3] F := Pick.take h1 (Pick.take h2 (Pick.take h3 .nil))
theorem Rem.app {O S O' : List Ent} (R : List Ent) (h : Rem O S O') : Rem (O ++ R) S (O' ++ R) := by
  induction h with
  | here => exact .here
  | hereS => rw [List.append_assoc]; exact .hereS
  | there _ ih => exact .there ih
  | thereS _ ih => rw [List.append_assoc, List.append_assoc]; exact .thereS ih
theorem Pick.appR {O M F : List Ent} (R : List Ent) (h : Pick O M F) : Pick (O ++ R) M (F ++ R) := by
  induction h with
  | nil => exact .nil
  | take h1 _ ih => exact .take (h1.app R) ih
/-- A call in a drawn region: it turns what stands in S alone. -/
theorem yc_callfR {S R : List Ent} {args : Array Operand} {ts : Array TypeId} {f : FuncId} {us : List Value} {X : Type} {u : X → Value} {M F0 : List Ent} {M' : X → List Ent} (ho : o.op = .call ⟨.value (.func f), args, ts⟩) (hk : Known P f) (hx : Opds E args.toList us) (hp : Pick S M F0)
    (h : Mut P f us w0 M u M') : YC P w0 (S ++ R) E o u (fun x => (M' x ++ F0) ++ R) := by
  have h9 := yc_callf (P := P) ho hk hx (hp.appR R) h
  simpa only [List.append_assoc] using h9
end
end Go.Proofs.YtmecikeaogjmpaaDoor


namespace Go.Proofs.YtmecikeaogjmpaaDoor
open Go.RowKit
set_option linter.unusedVariables false
set_option linter.unusedSimpArgs false
set_option maxRecDepth 20000



theorem c_l01Finite {w : World} (x : Nat) : Pure Tryd.prog 103 [.float .f32 x] w (.bool (fin x)) := by
  refine Pure.enter Tryd.func103 rfl Tryd.ntmps103 (Nat.le_of_ble_eq_true rfl) ?_
  refine V.seq ?_
  refine V.region ?_
  refine VL.r (.inl rfl) rfl (by decide) (yr_assign (u := .bool false) rfl rfl) ?_
  refine VL.nil ?_
  refine VE.then_wp ?_
  refine V.seq ?_
  refine V.region ?_
  refine VL.r (.inl rfl) rfl (by decide) (yr_move rfl rfl) ?_
  refine VL.r (.inl rfl) rfl (by decide) (yr_move rfl rfl) ?_
  refine VL.r (.inl rfl) rfl (by decide) (yr_float rfl (.inr (.inl rfl)) rfl rfl) ?_
  refine VL.r (.inl rfl) rfl (by decide) (yr_fcmp (b := 0) rfl (.inl rfl) rfl rfl) ?_
  refine VL.r (.inl rfl) rfl (by decide) (yr_assign rfl rfl) ?_
  refine VL.nil ?_
  refine VE.then_wp ?_
  refine V.ret ?_
  refine ret1 rfl rfl (fun w1 hw => ?_)
  exact ⟨rfl, hw.below⟩

end Go.Proofs.YtmecikeaogjmpaaDoor


namespace Go.Proofs.YtmecikeaogjmpaaDoor
open Go.RowKit
set_option linter.unusedVariables false
set_option linter.unusedSimpArgs false
set_option maxRecDepth 20000




end Go.Proofs.YtmecikeaogjmpaaDoor


namespace Go.Proofs.YtmecikeaogjmpaaDoor
open Go.RowKit
set_option linter.unusedVariables false
set_option linter.unusedSimpArgs false
set_option maxRecDepth 20000




end Go.Proofs.YtmecikeaogjmpaaDoor


namespace Go.Proofs.YtmecikeaogjmpaaDoor
open Go.RowKit
set_option linter.unusedVariables false
set_option linter.unusedSimpArgs false
set_option maxRecDepth 20000




end Go.Proofs.YtmecikeaogjmpaaDoor


namespace Go.Proofs.YtmecikeaogjmpaaDoor

end Go.Proofs.YtmecikeaogjmpaaDoor


namespace Go.Proofs.YtmecikeaogjmpaaDoor
open Go.RowKit
set_option linter.unusedVariables false
set_option linter.unusedSimpArgs false
set_option maxRecDepth 20000



end Go.Proofs.YtmecikeaogjmpaaDoor


namespace Go.Proofs.YtmecikeaogjmpaaDoor
open Go.RowKit
set_option linter.unusedVariables false
set_option linter.unusedSimpArgs false
set_option maxRecDepth 20000



theorem c_within {w : World} {n lo hi : Int} : Pure Tryd.prog 43 [.int .i64 n, .int .i64 lo, .int .i64 hi] w (.bool (decide (lo ≤ n ∧ n ≤ hi))) := by
  refine Pure.enter Tryd.func43 rfl Tryd.ntmps43 (Nat.le_of_ble_eq_true rfl) ?_
  refine V.seq ?_
  refine V.region ?_
  refine VL.r (.inl rfl) rfl (by decide) (yr_assign (u := .bool false) rfl rfl) ?_
  refine VL.nil ?_
  refine VE.then_wp ?_
  refine V.seq ?_
  refine V.region ?_
  refine VL.r (.inl rfl) rfl (by decide) (yr_move rfl rfl) ?_
  refine VL.r (.inl rfl) rfl (by decide) (yr_move rfl rfl) ?_
  refine VL.r (.inl rfl) rfl (by decide) (yr_icmp rfl (.inr (.inr (.inr (.inr (.inr rfl))))) rfl rfl) ?_
  refine VL.r (.inl rfl) rfl (by decide) (yr_move rfl rfl) ?_
  refine VX.split 10 _ rfl (fun h1 => ?_) (fun h1 => ?_)
  · skip
    replace h1 := ic_geq h1
    refine VL.r (.inr ⟨_, _, _, rfl, rfl, rfl⟩) rfl (by decide) (yr_move rfl rfl) ?_
    refine VL.r (.inr ⟨_, _, _, rfl, rfl, rfl⟩) rfl (by decide) (yr_move rfl rfl) ?_
    refine VL.r (.inr ⟨_, _, _, rfl, rfl, rfl⟩) rfl (by decide) (yr_icmp rfl (.inr (.inr (.inr (.inl rfl)))) rfl rfl) ?_
    refine VL.r (.inl rfl) rfl (by decide) (yr_pick_t rfl rfl rfl) ?_
    refine VL.r (.inl rfl) rfl (by decide) (yr_assign rfl rfl) ?_
    refine VL.nil ?_
    refine VE.then_wp ?_
    refine V.ret ?_
    refine ret1 rfl rfl (fun w1 hw => ?_)
    exact ⟨congrArg Value.bool (in_t (by assumption)), hw.below⟩
  · skip
    replace h1 := ic_geq' h1
    refine VL.no rfl rfl rfl rfl rfl (by decide) ?_
    refine VL.no rfl rfl rfl rfl rfl (by decide) ?_
    refine VL.no rfl rfl rfl rfl rfl (by decide) ?_
    refine VL.r (.inl rfl) rfl (by decide) (yr_pick_f (u := .bool false) rfl rfl rfl) ?_
    refine VL.r (.inl rfl) rfl (by decide) (yr_assign rfl rfl) ?_
    refine VL.nil ?_
    refine VE.then_wp ?_
    refine V.ret ?_
    refine ret1 rfl rfl (fun w1 hw => ?_)
    exact ⟨congrArg Value.bool (in_f (by assumption)), hw.below⟩

end Go.Proofs.YtmecikeaogjmpaaDoor


namespace Go.Proofs.YtmecikeaogjmpaaDoor
open Go.RowKit
set_option linter.unusedVariables false
set_option linter.unusedSimpArgs false
set_option maxRecDepth 20000

theorem sz90_Vec : (Tryd.prog.info? 90).map (·.size) = some 1 := by kernel_rfl
theorem fb90_Vec : flatB Tryd.prog 90 = true := by kernel_rfl
theorem known103_Vec : Known Tryd.prog 103 := Known.mk' Tryd.func103 (by kernel_rfl)
attribute [local irreducible] fop fcmp fconv sqrt32 fneg

theorem c_fin3S {w : World} {x1 x2 x3 : Nat} : Pure Tryd.prog 111 [vv (x1, x2, x3)] w (.bool (fin3 (x1, x2, x3))) := by
  refine Pure.enter Tryd.func111 rfl Tryd.ntmps111 (Nat.le_of_ble_eq_true rfl) ?_
  refine V.seq ?_
  refine V.region ?_
  refine VL.new1 (.inl rfl) rfl (by decide) (yn_box rfl rfl (.inr ⟨rfl, rfl⟩)) ?_
  intro b1
  refine VL.r (.inl rfl) rfl (by decide) (yr_assign (u := .bool false) rfl rfl) ?_
  refine VL.nil ?_
  refine VE.then_wp ?_
  refine V.seq ?_
  refine V.region ?_
  refine VL.r (.inl rfl) rfl (by decide) (yr_fieldAddr rfl Tryd.underlying101 rfl rfl sz90_Vec (by decide) rfl) ?_
  refine VL.q (.inl rfl) rfl (by decide) (yq_load rfl fb90_Vec rfl (by first | exact Sees.root (by assumption) | exact Sees.own (by repeat (first | exact List.mem_cons_self | exact List.mem_append_left _ (by assumption) | apply List.mem_cons_of_mem | apply List.mem_append_right)) | exact Sees.root (hR _ (by omega)) | exact Sees.own (RowsIn.mem (by repeat (first | exact RowsIn.here | exact RowsIn.last | apply RowsIn.there | apply RowsIn.thereS)) _ (by omega)) | exact Sees.own (WRowsIn.mem (by repeat (first | exact WRowsIn.here | exact WRowsIn.last | apply WRowsIn.there | apply WRowsIn.thereS)) _ (by omega))) rfl) ?_
  refine VL.q (.inl rfl) rfl (by decide) (yq_callf rfl known103_Vec (.cons rfl .nil) (fun w hw => c_l01Finite _)) ?_
  refine VL.r (.inl rfl) rfl (by decide) (yr_move rfl rfl) ?_
  refine VX.split 6 _ rfl (fun h1 => ?_) (fun h1 => ?_)
  · skip
    refine VL.r (.inr ⟨_, _, _, rfl, rfl, rfl⟩) rfl (by decide) (yr_fieldAddr rfl Tryd.underlying101 rfl rfl sz90_Vec (by decide) rfl) ?_
    refine VL.q (.inr ⟨_, _, _, rfl, rfl, rfl⟩) rfl (by decide) (yq_load rfl fb90_Vec rfl (by first | exact Sees.root (by assumption) | exact Sees.own (by repeat (first | exact List.mem_cons_self | exact List.mem_append_left _ (by assumption) | apply List.mem_cons_of_mem | apply List.mem_append_right)) | exact Sees.root (hR _ (by omega)) | exact Sees.own (RowsIn.mem (by repeat (first | exact RowsIn.here | exact RowsIn.last | apply RowsIn.there | apply RowsIn.thereS)) _ (by omega)) | exact Sees.own (WRowsIn.mem (by repeat (first | exact WRowsIn.here | exact WRowsIn.last | apply WRowsIn.there | apply WRowsIn.thereS)) _ (by omega))) rfl) ?_
    refine VL.q (.inr ⟨_, _, _, rfl, rfl, rfl⟩) rfl (by decide) (yq_callf rfl known103_Vec (.cons rfl .nil) (fun w hw => c_l01Finite _)) ?_
    refine VL.r (.inl rfl) rfl (by decide) (yr_pick_t rfl rfl rfl) ?_
    refine VL.r (.inl rfl) rfl (by decide) (yr_move rfl rfl) ?_
    refine VX.split 11 _ rfl (fun h2 => ?_) (fun h2 => ?_)
    · skip
      refine VL.r (.inr ⟨_, _, _, rfl, rfl, rfl⟩) rfl (by decide) (yr_fieldAddr rfl Tryd.underlying101 rfl rfl sz90_Vec (by decide) rfl) ?_
      refine VL.q (.inr ⟨_, _, _, rfl, rfl, rfl⟩) rfl (by decide) (yq_load rfl fb90_Vec rfl (by first | exact Sees.root (by assumption) | exact Sees.own (by repeat (first | exact List.mem_cons_self | exact List.mem_append_left _ (by assumption) | apply List.mem_cons_of_mem | apply List.mem_append_right)) | exact Sees.root (hR _ (by omega)) | exact Sees.own (RowsIn.mem (by repeat (first | exact RowsIn.here | exact RowsIn.last | apply RowsIn.there | apply RowsIn.thereS)) _ (by omega)) | exact Sees.own (WRowsIn.mem (by repeat (first | exact WRowsIn.here | exact WRowsIn.last | apply WRowsIn.there | apply WRowsIn.thereS)) _ (by omega))) rfl) ?_
      refine VL.q (.inr ⟨_, _, _, rfl, rfl, rfl⟩) rfl (by decide) (yq_callf rfl known103_Vec (.cons rfl .nil) (fun w hw => c_l01Finite _)) ?_
      refine VL.r (.inl rfl) rfl (by decide) (yr_pick_t rfl rfl rfl) ?_
      refine VL.r (.inl rfl) rfl (by decide) (yr_assign rfl rfl) ?_
      refine VL.nil ?_
      refine VE.then_wp ?_
      refine V.ret ?_
      refine ret1 rfl rfl (fun w1 hw => ?_)
      first
        | (exact ⟨congrArg Value.bool (fin3_t (a := (x1, x2, x3)) (by assumption) (by assumption)), hw.below⟩)
        | (exact ⟨congrArg Value.bool (fin3_f1 (a := (x1, x2, x3)) (by assumption)), hw.below⟩)
        | (exact ⟨congrArg Value.bool (fin3_f2 (a := (x1, x2, x3)) (by assumption) (by assumption)), hw.below⟩)
    · skip
      refine VL.no rfl rfl rfl rfl rfl (by decide) ?_
      refine VL.no rfl rfl rfl rfl rfl (by decide) ?_
      refine VL.no rfl rfl rfl rfl rfl (by decide) ?_
      refine VL.r (.inl rfl) rfl (by decide) (yr_pick_f (u := .bool false) rfl rfl rfl) ?_
      refine VL.r (.inl rfl) rfl (by decide) (yr_assign rfl rfl) ?_
      refine VL.nil ?_
      refine VE.then_wp ?_
      refine V.ret ?_
      refine ret1 rfl rfl (fun w1 hw => ?_)
      first
        | (exact ⟨congrArg Value.bool (fin3_t (a := (x1, x2, x3)) (by assumption) (by assumption)), hw.below⟩)
        | (exact ⟨congrArg Value.bool (fin3_f1 (a := (x1, x2, x3)) (by assumption)), hw.below⟩)
        | (exact ⟨congrArg Value.bool (fin3_f2 (a := (x1, x2, x3)) (by assumption) (by assumption)), hw.below⟩)
  · skip
    refine VL.no rfl rfl rfl rfl rfl (by decide) ?_
    refine VL.no rfl rfl rfl rfl rfl (by decide) ?_
    refine VL.no rfl rfl rfl rfl rfl (by decide) ?_
    refine VL.r (.inl rfl) rfl (by decide) (yr_pick_f (u := .bool false) rfl rfl rfl) ?_
    refine VL.r (.inl rfl) rfl (by decide) (yr_move rfl rfl) ?_
    refine VL.no rfl rfl rfl rfl rfl (by decide) ?_
    refine VL.no rfl rfl rfl rfl rfl (by decide) ?_
    refine VL.no rfl rfl rfl rfl rfl (by decide) ?_
    refine VL.r (.inl rfl) rfl (by decide) (yr_pick_f (u := .bool false) rfl rfl rfl) ?_
    refine VL.r (.inl rfl) rfl (by decide) (yr_assign rfl rfl) ?_
    refine VL.nil ?_
    refine VE.then_wp ?_
    refine V.ret ?_
    refine ret1 rfl rfl (fun w1 hw => ?_)
    first
      | (exact ⟨congrArg Value.bool (fin3_t (a := (x1, x2, x3)) (by assumption) (by assumption)), hw.below⟩)
      | (exact ⟨congrArg Value.bool (fin3_f1 (a := (x1, x2, x3)) (by assumption)), hw.below⟩)
      | (exact ⟨congrArg Value.bool (fin3_f2 (a := (x1, x2, x3)) (by assumption) (by assumption)), hw.below⟩)

end Go.Proofs.YtmecikeaogjmpaaDoor


namespace Go.Proofs.YtmecikeaogjmpaaDoor
open Go.RowKit

section
variable {ws : List Wr} {f : V3} {st W H D x y z k : Nat} {wi hi de : Int}
theorem tmodN (a b : Nat) : ((a : Int)).tmod (b : Int) = ((a % b : Nat) : Int) := (Int.ofNat_tmod _ _).symm
theorem tdivN (a b : Nat) : ((a : Int)).tdiv (b : Int) = ((a / b : Nat) : Int) := (Int.ofNat_tdiv _ _).symm
end
section
variable {P : Program} {E : Env} {o : Oper}
theorem yr_remN {t ty : TypeId} {x y : Operand} {p q : Int} (a b : Nat) (ho : o.op = .binOp .rem t x y ty) (hx : E.opd x = some (.int .i64 p)) (hy : E.opd y = some (.int .i64 q)) (hp : p = (a : Int)) (hq : q = (b : Int)) (hb : 0 < b) : YR P E o (.int .i64 ((a % b : Nat) : Int)) := by
  subst hp; subst hq
  have h := yr_rem (P := P) ho hx hy (by omega)
  rwa [tmodN] at h
theorem yr_quoN {t ty : TypeId} {x y : Operand} {p q : Int} (a b : Nat) (ho : o.op = .binOp .quo t x y ty) (hx : E.opd x = some (.int .i64 p)) (hy : E.opd y = some (.int .i64 q)) (hp : p = (a : Int)) (hq : q = (b : Int)) (hb : 0 < b) (ha : a ≤ 9223372036854775807) : YR P E o (.int .i64 ((a / b : Nat) : Int)) := by
  subst hp; subst hq
  have h := yr_quo (P := P) ho hx hy (by omega) (wrap_quo (by omega))
  rwa [tdivN] at h
end
section
variable {ws : List Wr} {f : V3} {st W H D : Nat} {wi hi de n : Int}
end
end Go.Proofs.YtmecikeaogjmpaaDoor


namespace Go.Proofs.YtmecikeaogjmpaaDoor
open Go.RowKit
set_option linter.unusedVariables false
set_option linter.unusedSimpArgs false
set_option maxRecDepth 20000

theorem mixed_R8 : Tryd.prog.follows .mixedOrders = true := by kernel_rfl
theorem sz3_R8 : (Tryd.prog.info? 3).map (·.size) = some 1 := by kernel_rfl
theorem fb3_R8 : flatB Tryd.prog 3 = true := by kernel_rfl
theorem sz34_R8 : (Tryd.prog.info? 34).map (·.size) = some 1 := by kernel_rfl
theorem fb34_R8 : flatB Tryd.prog 34 = true := by kernel_rfl
theorem sz5_R8 : (Tryd.prog.info? 5).map (·.size) = some 1 := by kernel_rfl
theorem fb5_R8 : flatB Tryd.prog 5 = true := by kernel_rfl
theorem sz85_R8 : (Tryd.prog.info? 85).map (·.size) = some 1 := by kernel_rfl
theorem fb85_R8 : flatB Tryd.prog 85 = true := by kernel_rfl
theorem known48_R8 : Known Tryd.prog 48 := Known.mk' Tryd.func48 (by kernel_rfl)
theorem lay87_R8 : Lay Tryd.prog 87 [Value.slice none 0 0, Value.int .i64 0, Value.int .u64 0] [(0, 1), (1, 1), (2, 1)] := Lay.mk' (by kernel_rfl) (by kernel_rfl)
attribute [local irreducible] fop fcmp fconv fneg fabs List.getD qw hqw uw

theorem c_next {w0 : World} {a : Option Addr} {c q n sd : Nat} {bs : List Int} (hA : Cl w0 a (bl bs)) (hb : Bytes bs) (hl : bs.length ≤ 2000000) (hn : n ≤ 100000) (hsd : sd < 18446744073709551616) : Mut Tryd.prog 48 [.pointer (some (adr (some ⟨q, 0, none⟩) 0))] w0 [⟨some ⟨q, 0, none⟩, [.slice a bs.length c, .int .i64 ((n : Nat) : Int), .int .u64 ((sd : Nat) : Int)], 3, 87⟩] (fun x : {x : Nat × Nat // x.1 < 256 ∧ x.2 < 18446744073709551616} => .int .i64 ((x.1.1 : Nat) : Int)) (fun x => [⟨some ⟨q, 0, none⟩, [.slice a bs.length c, .int .i64 ((n + 1 : Nat) : Int), .int .u64 ((x.1.2 : Nat) : Int)], 3, 87⟩]) := by
  refine Mut.enter Tryd.func48 rfl Tryd.ntmps48 (Nat.le_of_ble_eq_true rfl) ?_
  intro F
  refine V.seq ?_
  refine V.region ?_
  refine VL.r (.inl rfl) rfl (by decide) (yr_assign (u := .int .i64 0) rfl rfl) ?_
  refine VL.nil ?_
  refine VE.then_wp ?_
  refine V.seq ?_
  refine V.region ?_
  refine VL.r (.inl rfl) rfl (by decide) (yr_assign (u := .int .i64 0) rfl rfl) ?_
  refine VL.nil ?_
  refine VE.then_wp ?_
  refine V.seq ?_
  refine V.seq ?_
  refine V.draw [(0, 0), (1, 0), (2, 0), (3, 0), (4, 0), (5, 0), (6, 0), (7, 0), (8, 0), (9, 0)] mixed_R8 (by kernel_rfl) (by intro j o hj; simp at hj) ?_
  refine SW.r rfl (.inl rfl) rfl (by decide) (yr_move rfl rfl) ?_
  refine SW.r rfl (.inl rfl) rfl (by decide) (yr_nilCheck rfl rfl) ?_
  refine SW.r rfl (.inl rfl) rfl (by decide) (yr_fieldAddr rfl Tryd.underlying87 rfl rfl sz3_R8 (by decide) rfl) ?_
  refine SW.q rfl (.inl rfl) rfl (by decide) (yq_load rfl fb3_R8 rfl (by first | exact Sees.root (by assumption) | exact Sees.own (by repeat (first | exact List.mem_cons_self | exact List.mem_append_left _ (by assumption) | apply List.mem_cons_of_mem | apply List.mem_append_right)) | exact Sees.root (hR _ (by omega)) | exact Sees.own (RowsIn.mem (by repeat (first | exact RowsIn.here | exact RowsIn.last | apply RowsIn.there | apply RowsIn.thereS)) _ (by omega)) | exact Sees.own (WRowsIn.mem (by repeat (first | exact WRowsIn.here | exact WRowsIn.last | apply WRowsIn.there | apply WRowsIn.thereS)) _ (by omega))) rfl) ?_
  refine SW.r rfl (.inl rfl) rfl (by decide) (yr_move rfl rfl) ?_
  refine SW.r rfl (.inl rfl) rfl (by decide) (yr_nilCheck rfl rfl) ?_
  refine SW.r rfl (.inl rfl) rfl (by decide) (yr_fieldAddr rfl Tryd.underlying87 rfl rfl sz34_R8 (by decide) rfl) ?_
  refine SW.q rfl (.inl rfl) rfl (by decide) (yq_load rfl fb34_R8 rfl (by first | exact Sees.root (by assumption) | exact Sees.own (by repeat (first | exact List.mem_cons_self | exact List.mem_append_left _ (by assumption) | apply List.mem_cons_of_mem | apply List.mem_append_right)) | exact Sees.root (hR _ (by omega)) | exact Sees.own (RowsIn.mem (by repeat (first | exact RowsIn.here | exact RowsIn.last | apply RowsIn.there | apply RowsIn.thereS)) _ (by omega)) | exact Sees.own (WRowsIn.mem (by repeat (first | exact WRowsIn.here | exact WRowsIn.last | apply WRowsIn.there | apply WRowsIn.thereS)) _ (by omega))) rfl) ?_
  refine SW.r rfl (.inl rfl) rfl (by decide) (yr_len rfl Tryd.underlying34 rfl) ?_
  refine SW.r rfl (.inl rfl) rfl (by decide) (yr_icmp rfl (.inr (.inr (.inl rfl))) rfl rfl) ?_
  refine SW.done ?_
  refine VE.then_wp ?_
  refine V.cond rfl (fun h1 => ?_) (fun h1 => ?_)
  · skip
    replace h1 := ic_lss h1
    have hbn := byte_get hb (show n < bs.length by omega)
    refine V.draw [(0, 0), (1, 0), (2, 0), (3, 0), (4, 0), (5, 0), (6, 0), (7, 0), (8, 0), (9, 0), (10, 0), (11, 0)] mixed_R8 (by kernel_rfl) (by intro j o hj; simp at hj) ?_
    refine SW.r rfl (.inl rfl) rfl (by decide) (yr_move rfl rfl) ?_
    refine SW.r rfl (.inl rfl) rfl (by decide) (yr_nilCheck rfl rfl) ?_
    refine SW.r rfl (.inl rfl) rfl (by decide) (yr_fieldAddr rfl Tryd.underlying87 rfl rfl sz34_R8 (by decide) rfl) ?_
    refine SW.q rfl (.inl rfl) rfl (by decide) (yq_load rfl fb34_R8 rfl (by first | exact Sees.root (by assumption) | exact Sees.own (by repeat (first | exact List.mem_cons_self | exact List.mem_append_left _ (by assumption) | apply List.mem_cons_of_mem | apply List.mem_append_right)) | exact Sees.root (hR _ (by omega)) | exact Sees.own (RowsIn.mem (by repeat (first | exact RowsIn.here | exact RowsIn.last | apply RowsIn.there | apply RowsIn.thereS)) _ (by omega)) | exact Sees.own (WRowsIn.mem (by repeat (first | exact WRowsIn.here | exact WRowsIn.last | apply WRowsIn.there | apply WRowsIn.thereS)) _ (by omega))) rfl) ?_
    refine SW.r rfl (.inl rfl) rfl (by decide) (yr_move rfl rfl) ?_
    refine SW.r rfl (.inl rfl) rfl (by decide) (yr_nilCheck rfl rfl) ?_
    refine SW.r rfl (.inl rfl) rfl (by decide) (yr_fieldAddr rfl Tryd.underlying87 rfl rfl sz3_R8 (by decide) rfl) ?_
    refine SW.q rfl (.inl rfl) rfl (by decide) (yq_load rfl fb3_R8 rfl (by first | exact Sees.root (by assumption) | exact Sees.own (by repeat (first | exact List.mem_cons_self | exact List.mem_append_left _ (by assumption) | apply List.mem_cons_of_mem | apply List.mem_append_right)) | exact Sees.root (hR _ (by omega)) | exact Sees.own (RowsIn.mem (by repeat (first | exact RowsIn.here | exact RowsIn.last | apply RowsIn.there | apply RowsIn.thereS)) _ (by omega)) | exact Sees.own (WRowsIn.mem (by repeat (first | exact WRowsIn.here | exact WRowsIn.last | apply WRowsIn.there | apply WRowsIn.thereS)) _ (by omega))) rfl) ?_
    refine SW.q rfl (.inl rfl) rfl (by decide) (yq_idx (k := n) rfl Tryd.underlying34 sz5_R8 rfl rfl (by first | exact Sees.root (by assumption) | exact Sees.own (by repeat (first | exact List.mem_cons_self | exact List.mem_append_left _ (by assumption) | apply List.mem_cons_of_mem | apply List.mem_append_right)) | exact Sees.root (hR _ (by omega)) | exact Sees.own (RowsIn.mem (by repeat (first | exact RowsIn.here | exact RowsIn.last | apply RowsIn.there | apply RowsIn.thereS)) _ (by omega)) | exact Sees.own (WRowsIn.mem (by repeat (first | exact WRowsIn.here | exact WRowsIn.last | apply WRowsIn.there | apply WRowsIn.thereS)) _ (by omega))) (by first | rfl | omega | (push_cast; rfl) | (push_cast; omega) | exact tmod_nat _ _) (by exact bl_length _) (by omega)) ?_
    refine SW.q rfl (.inl rfl) rfl (by decide) (yq_load (u := .int .u8 (bs.getD n 0)) rfl fb5_R8 rfl (by first | exact Sees.root (by assumption) | exact Sees.own (by repeat (first | exact List.mem_cons_self | exact List.mem_append_left _ (by assumption) | apply List.mem_cons_of_mem | apply List.mem_append_right)) | exact Sees.root (hR _ (by omega)) | exact Sees.own (RowsIn.mem (by repeat (first | exact RowsIn.here | exact RowsIn.last | apply RowsIn.there | apply RowsIn.thereS)) _ (by omega)) | exact Sees.own (WRowsIn.mem (by repeat (first | exact WRowsIn.here | exact WRowsIn.last | apply WRowsIn.there | apply WRowsIn.thereS)) _ (by omega))) (bl_get (by omega))) ?_
    refine SW.r rfl (.inl rfl) rfl (by decide) (yr_intConv (r := bs.getD n 0) rfl Tryd.underlying5 Tryd.underlying3 rfl (wrap_in (by omega))) ?_
    refine SW.r rfl (.inl rfl) rfl (by decide) (yr_assign rfl rfl) ?_
    refine SW.done ?_
    refine VE.then_wp ?_
    refine V.seq ?_
    refine V.region ?_
    refine VL.r (.inl rfl) rfl (by decide) (yr_move rfl rfl) ?_
    refine VL.r (.inl rfl) rfl (by decide) (yr_nilCheck rfl rfl) ?_
    refine VL.r (.inl rfl) rfl (by decide) (yr_fieldAddr rfl Tryd.underlying87 rfl rfl sz3_R8 (by decide) rfl) ?_
    refine VL.q (.inl rfl) rfl (by decide) (yq_load rfl fb3_R8 rfl (by first | exact Sees.root (by assumption) | exact Sees.own (by repeat (first | exact List.mem_cons_self | exact List.mem_append_left _ (by assumption) | apply List.mem_cons_of_mem | apply List.mem_append_right)) | exact Sees.root (hR _ (by omega)) | exact Sees.own (RowsIn.mem (by repeat (first | exact RowsIn.here | exact RowsIn.last | apply RowsIn.there | apply RowsIn.thereS)) _ (by omega)) | exact Sees.own (WRowsIn.mem (by repeat (first | exact WRowsIn.here | exact WRowsIn.last | apply WRowsIn.there | apply WRowsIn.thereS)) _ (by omega))) rfl) ?_
    refine VL.r (.inl rfl) rfl (by decide) (yr_addN (n + 1) rfl rfl rfl (by push_cast; rfl) (by omega)) ?_
    refine VL.r (.inl rfl) rfl (by decide) (yr_nilCheck rfl rfl) ?_
    refine VL.r (.inl rfl) rfl (by decide) (yr_fieldAddr rfl Tryd.underlying87 rfl rfl sz3_R8 (by decide) rfl) ?_
    refine VL.s (.inl rfl) rfl (yc_store rfl sz3_R8 rfl rfl (by repeat (first | exact UpdF.here | apply UpdF.there | apply UpdF.thereS)) (.inl ⟨rfl, rfl⟩) rfl (by first | exact Nat.le_of_ble_eq_true rfl | simp) (by decide) rfl) ?_
    rintro ⟨⟩
    refine VL.nil ?_
    refine VE.then_wp ?_
    refine V.seq ?_
    refine V.region ?_
    refine VL.r (.inl rfl) rfl (by decide) (yr_move rfl rfl) ?_
    refine VL.r (.inl rfl) rfl (by decide) (yr_move rfl rfl) ?_
    refine VL.r (.inl rfl) rfl (by decide) (yr_nilCheck rfl rfl) ?_
    refine VL.r (.inl rfl) rfl (by decide) (yr_fieldAddr rfl Tryd.underlying87 rfl rfl sz85_R8 (by decide) rfl) ?_
    refine VL.q (.inl rfl) rfl (by decide) (yq_load rfl fb85_R8 rfl (by first | exact Sees.root (by assumption) | exact Sees.own (by repeat (first | exact List.mem_cons_self | exact List.mem_append_left _ (by assumption) | apply List.mem_cons_of_mem | apply List.mem_append_right)) | exact Sees.root (hR _ (by omega)) | exact Sees.own (RowsIn.mem (by repeat (first | exact RowsIn.here | exact RowsIn.last | apply RowsIn.there | apply RowsIn.thereS)) _ (by omega)) | exact Sees.own (WRowsIn.mem (by repeat (first | exact WRowsIn.here | exact WRowsIn.last | apply WRowsIn.there | apply WRowsIn.thereS)) _ (by omega))) rfl) ?_
    refine VL.r (.inl rfl) rfl (by decide) (yr_int rfl rfl rfl (.inr (.inr ⟨rfl, rfl⟩))) ?_
    refine VL.r (.inl rfl) rfl (by decide) (yr_move rfl rfl) ?_
    refine VL.r (.inl rfl) rfl (by decide) (yr_intConv rfl Tryd.underlying3 Tryd.underlying85 rfl rfl) ?_
    refine VL.r (.inl rfl) rfl (by decide) (yr_int rfl rfl rfl (.inl ⟨rfl, rfl⟩)) ?_
    refine VL.r (.inl rfl) rfl (by decide) (yr_int rfl rfl rfl (.inl ⟨rfl, u64_to _⟩)) ?_
    refine VL.r (.inl rfl) rfl (by decide) (yr_nilCheck rfl rfl) ?_
    refine VL.r (.inl rfl) rfl (by decide) (yr_fieldAddr rfl Tryd.underlying87 rfl rfl sz85_R8 (by decide) rfl) ?_
    refine VL.s (.inl rfl) rfl (yc_store rfl sz85_R8 rfl rfl (by repeat (first | exact UpdF.here | apply UpdF.there | apply UpdF.thereS)) (.inl ⟨rfl, rfl⟩) rfl (by first | exact Nat.le_of_ble_eq_true rfl | simp) (by decide) rfl) ?_
    rintro ⟨⟩
    refine VL.nil ?_
    refine VE.then_wp ?_
    refine V.seq ?_
    refine V.seq ?_
    refine V.draw [(0, 0), (1, 0), (2, 0), (3, 0), (4, 0), (5, 0), (6, 0), (7, 0), (8, 0), (9, 0)] mixed_R8 (by kernel_rfl) (by intro j o hj; simp at hj) ?_
    refine SW.r rfl (.inl rfl) rfl (by decide) (yr_move rfl rfl) ?_
    refine SW.r rfl (.inl rfl) rfl (by decide) (yr_nilCheck rfl rfl) ?_
    refine SW.r rfl (.inl rfl) rfl (by decide) (yr_fieldAddr rfl Tryd.underlying87 rfl rfl sz3_R8 (by decide) rfl) ?_
    refine SW.q rfl (.inl rfl) rfl (by decide) (yq_load rfl fb3_R8 rfl (by first | exact Sees.root (by assumption) | exact Sees.own (by repeat (first | exact List.mem_cons_self | exact List.mem_append_left _ (by assumption) | apply List.mem_cons_of_mem | apply List.mem_append_right)) | exact Sees.root (hR _ (by omega)) | exact Sees.own (RowsIn.mem (by repeat (first | exact RowsIn.here | exact RowsIn.last | apply RowsIn.there | apply RowsIn.thereS)) _ (by omega)) | exact Sees.own (WRowsIn.mem (by repeat (first | exact WRowsIn.here | exact WRowsIn.last | apply WRowsIn.there | apply WRowsIn.thereS)) _ (by omega))) rfl) ?_
    refine SW.r rfl (.inl rfl) rfl (by decide) (yr_move rfl rfl) ?_
    refine SW.r rfl (.inl rfl) rfl (by decide) (yr_nilCheck rfl rfl) ?_
    refine SW.r rfl (.inl rfl) rfl (by decide) (yr_fieldAddr rfl Tryd.underlying87 rfl rfl sz34_R8 (by decide) rfl) ?_
    refine SW.q rfl (.inl rfl) rfl (by decide) (yq_load rfl fb34_R8 rfl (by first | exact Sees.root (by assumption) | exact Sees.own (by repeat (first | exact List.mem_cons_self | exact List.mem_append_left _ (by assumption) | apply List.mem_cons_of_mem | apply List.mem_append_right)) | exact Sees.root (hR _ (by omega)) | exact Sees.own (RowsIn.mem (by repeat (first | exact RowsIn.here | exact RowsIn.last | apply RowsIn.there | apply RowsIn.thereS)) _ (by omega)) | exact Sees.own (WRowsIn.mem (by repeat (first | exact WRowsIn.here | exact WRowsIn.last | apply WRowsIn.there | apply WRowsIn.thereS)) _ (by omega))) rfl) ?_
    refine SW.r rfl (.inl rfl) rfl (by decide) (yr_len rfl Tryd.underlying34 rfl) ?_
    refine SW.r rfl (.inl rfl) rfl (by decide) (yr_icmp rfl (.inr (.inr (.inr (.inl rfl)))) rfl rfl) ?_
    refine SW.done ?_
    refine VE.then_wp ?_
    refine V.cond rfl (fun h2 => ?_) (fun h2 => ?_)
    · skip
      replace h2 := ic_leq h2
      refine V.seq ?_
      refine V.region ?_
      refine VL.r (.inl rfl) rfl (by decide) (yr_move rfl rfl) ?_
      refine VL.r (.inl rfl) rfl (by decide) (yr_assign rfl rfl) ?_
      refine VL.nil ?_
      refine VE.then_wp ?_
      refine V.ret ?_
      refine VE.then_ret ?_
      refine ret1 rfl rfl (fun w1 hw => ?_)
      first
        | exact ⟨⟨((bs.getD n 0).toNat, uw _), by show (bs.getD n 0).toNat < 256; omega, uw_lt _⟩, by show Value.int .i64 (bs.getD n 0) = .int .i64 (((bs.getD n 0).toNat : Nat) : Int); rw [Int.toNat_of_nonneg hbn.1], hw⟩
        | exact ⟨⟨((_ % 256 : Int).toNat, uw _), by show (_ % 256 : Int).toNat < 256; omega, uw_lt _⟩, rfl, hw⟩
    · skip
      replace h2 := ic_leq' h2
      refine V.skip ?_
      refine VE.then_wp ?_
      refine V.seq ?_
      refine V.region ?_
      refine VL.r (.inl rfl) rfl (by decide) (yr_move rfl rfl) ?_
      refine VL.r (.inl rfl) rfl (by decide) (yr_nilCheck rfl rfl) ?_
      refine VL.r (.inl rfl) rfl (by decide) (yr_fieldAddr rfl Tryd.underlying87 rfl rfl sz85_R8 (by decide) rfl) ?_
      refine VL.q (.inl rfl) rfl (by decide) (yq_load rfl fb85_R8 rfl (by first | exact Sees.root (by assumption) | exact Sees.own (by repeat (first | exact List.mem_cons_self | exact List.mem_append_left _ (by assumption) | apply List.mem_cons_of_mem | apply List.mem_append_right)) | exact Sees.root (hR _ (by omega)) | exact Sees.own (RowsIn.mem (by repeat (first | exact RowsIn.here | exact RowsIn.last | apply RowsIn.there | apply RowsIn.thereS)) _ (by omega)) | exact Sees.own (WRowsIn.mem (by repeat (first | exact WRowsIn.here | exact WRowsIn.last | apply WRowsIn.there | apply WRowsIn.thereS)) _ (by omega))) rfl) ?_
      refine VL.r (.inl rfl) rfl (by decide) (yr_shr (b := 40) rfl rfl rfl rfl) ?_
      refine VL.r (.inl rfl) rfl (by decide) (yr_bits rfl rfl rfl (.inl ⟨rfl, and255u _⟩)) ?_
      refine VL.r (.inl rfl) rfl (by decide) (yr_intConv rfl Tryd.underlying85 Tryd.underlying2 rfl (wrap_in (by omega))) ?_
      refine VL.r (.inl rfl) rfl (by decide) (yr_assign rfl rfl) ?_
      refine VL.nil ?_
      refine VE.then_wp ?_
      refine V.ret ?_
      refine ret1 rfl rfl (fun w1 hw => ?_)
      first
        | exact ⟨⟨((bs.getD n 0).toNat, uw _), by show (bs.getD n 0).toNat < 256; omega, uw_lt _⟩, by show Value.int .i64 (bs.getD n 0) = .int .i64 (((bs.getD n 0).toNat : Nat) : Int); rw [Int.toNat_of_nonneg hbn.1], hw⟩
        | exact ⟨⟨((_ % 256 : Int).toNat, uw _), by show (_ % 256 : Int).toNat < 256; omega, uw_lt _⟩, rfl, hw⟩
  · skip
    replace h1 := ic_lss' h1
    refine V.skip ?_
    refine VE.then_wp ?_
    refine V.seq ?_
    refine V.region ?_
    refine VL.r (.inl rfl) rfl (by decide) (yr_move rfl rfl) ?_
    refine VL.r (.inl rfl) rfl (by decide) (yr_nilCheck rfl rfl) ?_
    refine VL.r (.inl rfl) rfl (by decide) (yr_fieldAddr rfl Tryd.underlying87 rfl rfl sz3_R8 (by decide) rfl) ?_
    refine VL.q (.inl rfl) rfl (by decide) (yq_load rfl fb3_R8 rfl (by first | exact Sees.root (by assumption) | exact Sees.own (by repeat (first | exact List.mem_cons_self | exact List.mem_append_left _ (by assumption) | apply List.mem_cons_of_mem | apply List.mem_append_right)) | exact Sees.root (hR _ (by omega)) | exact Sees.own (RowsIn.mem (by repeat (first | exact RowsIn.here | exact RowsIn.last | apply RowsIn.there | apply RowsIn.thereS)) _ (by omega)) | exact Sees.own (WRowsIn.mem (by repeat (first | exact WRowsIn.here | exact WRowsIn.last | apply WRowsIn.there | apply WRowsIn.thereS)) _ (by omega))) rfl) ?_
    refine VL.r (.inl rfl) rfl (by decide) (yr_addN (n + 1) rfl rfl rfl (by push_cast; rfl) (by omega)) ?_
    refine VL.r (.inl rfl) rfl (by decide) (yr_nilCheck rfl rfl) ?_
    refine VL.r (.inl rfl) rfl (by decide) (yr_fieldAddr rfl Tryd.underlying87 rfl rfl sz3_R8 (by decide) rfl) ?_
    refine VL.s (.inl rfl) rfl (yc_store rfl sz3_R8 rfl rfl (by repeat (first | exact UpdF.here | apply UpdF.there | apply UpdF.thereS)) (.inl ⟨rfl, rfl⟩) rfl (by first | exact Nat.le_of_ble_eq_true rfl | simp) (by decide) rfl) ?_
    rintro ⟨⟩
    refine VL.nil ?_
    refine VE.then_wp ?_
    refine V.seq ?_
    refine V.region ?_
    refine VL.r (.inl rfl) rfl (by decide) (yr_move rfl rfl) ?_
    refine VL.r (.inl rfl) rfl (by decide) (yr_move rfl rfl) ?_
    refine VL.r (.inl rfl) rfl (by decide) (yr_nilCheck rfl rfl) ?_
    refine VL.r (.inl rfl) rfl (by decide) (yr_fieldAddr rfl Tryd.underlying87 rfl rfl sz85_R8 (by decide) rfl) ?_
    refine VL.q (.inl rfl) rfl (by decide) (yq_load rfl fb85_R8 rfl (by first | exact Sees.root (by assumption) | exact Sees.own (by repeat (first | exact List.mem_cons_self | exact List.mem_append_left _ (by assumption) | apply List.mem_cons_of_mem | apply List.mem_append_right)) | exact Sees.root (hR _ (by omega)) | exact Sees.own (RowsIn.mem (by repeat (first | exact RowsIn.here | exact RowsIn.last | apply RowsIn.there | apply RowsIn.thereS)) _ (by omega)) | exact Sees.own (WRowsIn.mem (by repeat (first | exact WRowsIn.here | exact WRowsIn.last | apply WRowsIn.there | apply WRowsIn.thereS)) _ (by omega))) rfl) ?_
    refine VL.r (.inl rfl) rfl (by decide) (yr_int rfl rfl rfl (.inr (.inr ⟨rfl, rfl⟩))) ?_
    refine VL.r (.inl rfl) rfl (by decide) (yr_move rfl rfl) ?_
    refine VL.r (.inl rfl) rfl (by decide) (yr_intConv rfl Tryd.underlying3 Tryd.underlying85 rfl rfl) ?_
    refine VL.r (.inl rfl) rfl (by decide) (yr_int rfl rfl rfl (.inl ⟨rfl, rfl⟩)) ?_
    refine VL.r (.inl rfl) rfl (by decide) (yr_int rfl rfl rfl (.inl ⟨rfl, u64_to _⟩)) ?_
    refine VL.r (.inl rfl) rfl (by decide) (yr_nilCheck rfl rfl) ?_
    refine VL.r (.inl rfl) rfl (by decide) (yr_fieldAddr rfl Tryd.underlying87 rfl rfl sz85_R8 (by decide) rfl) ?_
    refine VL.s (.inl rfl) rfl (yc_store rfl sz85_R8 rfl rfl (by repeat (first | exact UpdF.here | apply UpdF.there | apply UpdF.thereS)) (.inl ⟨rfl, rfl⟩) rfl (by first | exact Nat.le_of_ble_eq_true rfl | simp) (by decide) rfl) ?_
    rintro ⟨⟩
    refine VL.nil ?_
    refine VE.then_wp ?_
    refine V.seq ?_
    refine V.seq ?_
    refine V.draw [(0, 0), (1, 0), (2, 0), (3, 0), (4, 0), (5, 0), (6, 0), (7, 0), (8, 0), (9, 0)] mixed_R8 (by kernel_rfl) (by intro j o hj; simp at hj) ?_
    refine SW.r rfl (.inl rfl) rfl (by decide) (yr_move rfl rfl) ?_
    refine SW.r rfl (.inl rfl) rfl (by decide) (yr_nilCheck rfl rfl) ?_
    refine SW.r rfl (.inl rfl) rfl (by decide) (yr_fieldAddr rfl Tryd.underlying87 rfl rfl sz3_R8 (by decide) rfl) ?_
    refine SW.q rfl (.inl rfl) rfl (by decide) (yq_load rfl fb3_R8 rfl (by first | exact Sees.root (by assumption) | exact Sees.own (by repeat (first | exact List.mem_cons_self | exact List.mem_append_left _ (by assumption) | apply List.mem_cons_of_mem | apply List.mem_append_right)) | exact Sees.root (hR _ (by omega)) | exact Sees.own (RowsIn.mem (by repeat (first | exact RowsIn.here | exact RowsIn.last | apply RowsIn.there | apply RowsIn.thereS)) _ (by omega)) | exact Sees.own (WRowsIn.mem (by repeat (first | exact WRowsIn.here | exact WRowsIn.last | apply WRowsIn.there | apply WRowsIn.thereS)) _ (by omega))) rfl) ?_
    refine SW.r rfl (.inl rfl) rfl (by decide) (yr_move rfl rfl) ?_
    refine SW.r rfl (.inl rfl) rfl (by decide) (yr_nilCheck rfl rfl) ?_
    refine SW.r rfl (.inl rfl) rfl (by decide) (yr_fieldAddr rfl Tryd.underlying87 rfl rfl sz34_R8 (by decide) rfl) ?_
    refine SW.q rfl (.inl rfl) rfl (by decide) (yq_load rfl fb34_R8 rfl (by first | exact Sees.root (by assumption) | exact Sees.own (by repeat (first | exact List.mem_cons_self | exact List.mem_append_left _ (by assumption) | apply List.mem_cons_of_mem | apply List.mem_append_right)) | exact Sees.root (hR _ (by omega)) | exact Sees.own (RowsIn.mem (by repeat (first | exact RowsIn.here | exact RowsIn.last | apply RowsIn.there | apply RowsIn.thereS)) _ (by omega)) | exact Sees.own (WRowsIn.mem (by repeat (first | exact WRowsIn.here | exact WRowsIn.last | apply WRowsIn.there | apply WRowsIn.thereS)) _ (by omega))) rfl) ?_
    refine SW.r rfl (.inl rfl) rfl (by decide) (yr_len rfl Tryd.underlying34 rfl) ?_
    refine SW.r rfl (.inl rfl) rfl (by decide) (yr_icmp rfl (.inr (.inr (.inr (.inl rfl)))) rfl rfl) ?_
    refine SW.done ?_
    refine VE.then_wp ?_
    refine V.cond rfl (fun h3 => ?_) (fun h3 => ?_)
    · skip
      replace h3 := ic_leq h3
      exfalso; omega
    · skip
      replace h3 := ic_leq' h3
      refine V.skip ?_
      refine VE.then_wp ?_
      refine V.seq ?_
      refine V.region ?_
      refine VL.r (.inl rfl) rfl (by decide) (yr_move rfl rfl) ?_
      refine VL.r (.inl rfl) rfl (by decide) (yr_nilCheck rfl rfl) ?_
      refine VL.r (.inl rfl) rfl (by decide) (yr_fieldAddr rfl Tryd.underlying87 rfl rfl sz85_R8 (by decide) rfl) ?_
      refine VL.q (.inl rfl) rfl (by decide) (yq_load rfl fb85_R8 rfl (by first | exact Sees.root (by assumption) | exact Sees.own (by repeat (first | exact List.mem_cons_self | exact List.mem_append_left _ (by assumption) | apply List.mem_cons_of_mem | apply List.mem_append_right)) | exact Sees.root (hR _ (by omega)) | exact Sees.own (RowsIn.mem (by repeat (first | exact RowsIn.here | exact RowsIn.last | apply RowsIn.there | apply RowsIn.thereS)) _ (by omega)) | exact Sees.own (WRowsIn.mem (by repeat (first | exact WRowsIn.here | exact WRowsIn.last | apply WRowsIn.there | apply WRowsIn.thereS)) _ (by omega))) rfl) ?_
      refine VL.r (.inl rfl) rfl (by decide) (yr_shr (b := 40) rfl rfl rfl rfl) ?_
      refine VL.r (.inl rfl) rfl (by decide) (yr_bits rfl rfl rfl (.inl ⟨rfl, and255u _⟩)) ?_
      refine VL.r (.inl rfl) rfl (by decide) (yr_intConv rfl Tryd.underlying85 Tryd.underlying2 rfl (wrap_in (by omega))) ?_
      refine VL.r (.inl rfl) rfl (by decide) (yr_assign rfl rfl) ?_
      refine VL.nil ?_
      refine VE.then_wp ?_
      refine V.ret ?_
      refine ret1 rfl rfl (fun w1 hw => ?_)
      first
        | exact ⟨⟨((bs.getD n 0).toNat, uw _), by show (bs.getD n 0).toNat < 256; omega, uw_lt _⟩, by show Value.int .i64 (bs.getD n 0) = .int .i64 (((bs.getD n 0).toNat : Nat) : Int); rw [Int.toNat_of_nonneg hbn.1], hw⟩
        | exact ⟨⟨((_ % 256 : Int).toNat, uw _), by show (_ % 256 : Int).toNat < 256; omega, uw_lt _⟩, rfl, hw⟩

theorem c_pick {w0 : World} {a : Option Addr} {c q n sd : Nat} {bs : List Int} {m : Nat} (hA : Cl w0 a (bl bs)) (hb : Bytes bs) (hl : bs.length ≤ 2000000) (hn : n ≤ 100000) (hsd : sd < 18446744073709551616) (hm2 : 2 ≤ m) (hm3 : m ≤ 200) : Mut Tryd.prog 35 [.pointer (some (adr (some ⟨q, 0, none⟩) 0)), .int .i64 (m : Int)] w0 [⟨some ⟨q, 0, none⟩, [.slice a bs.length c, .int .i64 ((n : Nat) : Int), .int .u64 ((sd : Nat) : Int)], 3, 87⟩] (fun x : {x : Nat × Nat // x.1 < m ∧ x.2 < 18446744073709551616} => .int .i64 ((x.1.1 : Nat) : Int)) (fun x => [⟨some ⟨q, 0, none⟩, [.slice a bs.length c, .int .i64 ((n + 1 : Nat) : Int), .int .u64 ((x.1.2 : Nat) : Int)], 3, 87⟩]) := by
  refine Mut.enter Tryd.func35 rfl Tryd.ntmps35 (Nat.le_of_ble_eq_true rfl) ?_
  intro F
  refine V.seq ?_
  refine V.region ?_
  refine VL.r (.inl rfl) rfl (by decide) (yr_assign (u := .int .i64 0) rfl rfl) ?_
  refine VL.nil ?_
  refine VE.then_wp ?_
  refine V.seq ?_
  refine V.seq ?_
  refine V.region ?_
  refine VL.r (.inl rfl) rfl (by decide) (yr_move rfl rfl) ?_
  refine VL.r (.inl rfl) rfl (by decide) (yr_icmp rfl (.inr (.inr (.inr (.inl rfl)))) rfl rfl) ?_
  refine VL.nil ?_
  refine VE.then_wp ?_
  refine V.cond rfl (fun h1 => ?_) (fun h1 => ?_)
  · skip
    replace h1 := ic_leq h1
    exfalso; omega
  · skip
    replace h1 := ic_leq' h1
    refine V.skip ?_
    refine VE.then_wp ?_
    refine V.seq ?_
    refine V.region ?_
    refine VL.r (.inl rfl) rfl (by decide) (yr_move rfl rfl) ?_
    refine VL.c (.inl rfl) rfl (by decide) (yc_callf rfl known48_R8 (.cons rfl .nil) (by apply Pick.one; repeat (first | exact Rem.here | apply Rem.there | apply Rem.thereS)) (c_next hA hb (by omega) (by omega) (by omega))) ?_
    rintro ⟨⟨x9, s9⟩, hx9, hs9⟩
    dsimp only at hx9 hs9
    refine VL.r (.inl rfl) rfl (by decide) (yr_assign rfl rfl) ?_
    refine VL.nil ?_
    refine VE.then_wp ?_
    refine V.seq ?_
    refine V.seq ?_
    refine V.region ?_
    refine VL.r (.inl rfl) rfl (by decide) (yr_move rfl rfl) ?_
    refine VL.r (.inl rfl) rfl (by decide) (yr_icmp rfl (.inr (.inr (.inr (.inr (.inl rfl))))) rfl rfl) ?_
    refine VL.nil ?_
    refine VE.then_wp ?_
    refine V.cond rfl (fun h2 => ?_) (fun h2 => ?_)
    · skip
      replace h2 := ic_gtr h2
      exfalso; omega
    · skip
      replace h2 := ic_gtr' h2
      refine V.skip ?_
      refine VE.then_wp ?_
      refine V.seq ?_
      refine V.region ?_
      refine VL.r (.inl rfl) rfl (by decide) (yr_move rfl rfl) ?_
      refine VL.r (.inl rfl) rfl (by decide) (yr_move rfl rfl) ?_
      refine VL.r (.inl rfl) rfl (by decide) (yr_remN x9 m rfl rfl rfl rfl rfl (by omega)) ?_
      refine VL.r (.inl rfl) rfl (by decide) (yr_assign rfl rfl) ?_
      refine VL.nil ?_
      refine VE.then_wp ?_
      refine V.ret ?_
      refine ret1 rfl rfl (fun w1 hw => ?_)
      exact ⟨⟨(x9 % m, s9), Nat.mod_lt _ (by omega), hs9⟩, rfl, hw.perm' (by rw [List.append_nil]; exact List.perm_append_comm)⟩

theorem c_from {w : World} {a : Option Addr} {c : Nat} {bs : List Int} : New Tryd.prog 34 [.slice a bs.length c] w (fun p : Nat => .pointer (some (adr (some ⟨p, 0, none⟩) 0))) (fun p => [⟨some ⟨p, 0, none⟩, [.slice a bs.length c, .int .i64 ((0 : Nat) : Int), .int .u64 ((0 : Nat) : Int)], 3, 87⟩]) := by
  refine New.enter Tryd.func34 rfl Tryd.ntmps34 (Nat.le_of_ble_eq_true rfl) ?_
  refine V.seq ?_
  refine V.region ?_
  refine VL.r (.inl rfl) rfl (by decide) (yr_assign (u := .pointer none) rfl rfl) ?_
  refine VL.nil ?_
  refine VE.then_wp ?_
  refine V.seq ?_
  refine V.region ?_
  refine VL.r (.inl rfl) rfl (by decide) (yr_move rfl rfl) ?_
  refine VL.r (.inl rfl) rfl (by decide) (yr_build rfl lay87_R8 rfl (.cons rfl .nil) (by first | (simp; done) | (simp [vv]; done) | (simp [cn, cn1, cn0]; done)) rfl) ?_
  refine VL.new1 (.inl rfl) rfl (by decide) (yn_box rfl rfl (.inr ⟨rfl, rfl⟩)) ?_
  intro b5
  refine VL.r (.inl rfl) rfl (by decide) (yr_assign rfl rfl) ?_
  refine VL.nil ?_
  refine VE.then_wp ?_
  refine V.ret ?_
  refine ret1 rfl rfl (fun w1 hw => ?_)
  exact ⟨b5, rfl, hw.out1⟩

end Go.Proofs.YtmecikeaogjmpaaDoor


namespace Go.Proofs.YtmecikeaogjmpaaDoor
def dotK (xs ys : List Nat) : Nat → Nat
  | 0 => 0
  | k + 1 => fop .add .f32 (dotK xs ys k) (fop .mul .f32 (xs.getD k 0) (ys.getD k 0))
def missAt (xss : List (List Nat)) (ws x : List Nat) (i : Nat) : Nat := fop .sub .f32 (ws.getD i 0) (dotK (xss.getD i []) x x.length)
def sqK (xss : List (List Nat)) (ws gs x : List Nat) : Nat → Nat
  | 0 => 0
  | k + 1 => fop .add .f32 (sqK xss ws gs x k) (fop .mul .f32 (fop .mul .f32 (gs.getD k 0) (missAt xss ws x k)) (missAt xss ws x k))
noncomputable def fitsD (xss : List (List Nat)) (ws gs x : List Nat) : Bool := validD xss ws gs && decide (x.length = (xss.getD 0 []).length)
noncomputable def squareD (xss : List (List Nat)) (ws gs x : List Nat) : Nat := if fitsD xss ws gs x then sqK xss ws gs x xss.length else 0
end Go.Proofs.YtmecikeaogjmpaaDoor


namespace Go.Proofs.YtmecikeaogjmpaaDoor
end Go.Proofs.YtmecikeaogjmpaaDoor


namespace Go.Proofs.YtmecikeaogjmpaaDoor
open Go.RowKit

end Go.Proofs.YtmecikeaogjmpaaDoor


namespace Go.Proofs.YtmecikeaogjmpaaDoor
open Go.RowKit

theorem Hp.nil {w0 w : World} {O : List Ent} (h : Hp w0 O w) (t : TypeId) : Hp w0 (⟨none, [], 0, t⟩ :: O) w :=
  h.new (Below.refl _ _) (.inl ⟨rfl, rfl⟩)

/-! ### limits -/
section
variable {xss : List (List Nat)} {ws gs x : List Nat} {most unit : Nat} {rn : Int}
end
/-! ### steps that improve -/
section
variable {xss : List (List Nat)} {ws gs x : List Nat} {most unit : Nat} {rn : Int}
end
end Go.Proofs.YtmecikeaogjmpaaDoor


namespace Go.Proofs.YtmecikeaogjmpaaDoor
open Go.RowKit

/-! ### lists one behind the other -/
section
variable {P : Program} {w0 : World} {O : List Ent} {E : Env} {o : Oper}
end

/-! ### sizes -/
/-! ### what is merged -/
noncomputable def mergeOk (xss yss : List (List Nat)) (ws gs vs hs : List Nat) : Bool := validD xss ws gs && validD yss vs hs && validD (xss ++ yss) (ws ++ vs) (gs ++ hs)
section
variable {xss yss : List (List Nat)} {ws gs vs hs : List Nat}
end

/-! ### one row more -/
theorem Rws.one {w : World} {p : Option Addr × Nat} {xs : List Nat} (h : Cl w p.1 (fl xs)) : Rws w (fun _ => p) [xs] := by
  intro i hi
  have : i = 0 := by simpa using hi
  subst this
  exact h
/-! ### a column scaled -/
section
variable {xss : List (List Nat)} {ws gs : List Nat} {j : Int} {by' : Nat}
end
end Go.Proofs.YtmecikeaogjmpaaDoor


namespace Go.Proofs.YtmecikeaogjmpaaDoor
open Go.RowKit

section
variable {sq : List Nat → Nat} {s : List Nat}
end
section
variable {xss : List (List Nat)} {ws gs : List Nat} {size : Nat} {rn : Int}
end

end Go.Proofs.YtmecikeaogjmpaaDoor


namespace Go.Proofs.YtmecikeaogjmpaaDoor
open Go.RowKit

noncomputable def dropOk (xss : List (List Nat)) (ws gs : List Nat) (j : Int) : Bool := validD xss ws gs && decide (0 ≤ j ∧ j ≤ (xss.length : Int) - 1) && validD (xss.eraseIdx j.toNat) (ws.eraseIdx j.toNat) (gs.eraseIdx j.toNat)
section
variable {xss : List (List Nat)} {ws gs : List Nat} {j : Int}
noncomputable def dropX (xss : List (List Nat)) (ws gs : List Nat) (j : Int) : List (List Nat) := if dropOk xss ws gs j then xss.eraseIdx j.toNat else []
noncomputable def dropW (xss : List (List Nat)) (ws gs : List Nat) (j : Int) : List Nat := if dropOk xss ws gs j then ws.eraseIdx j.toNat else []
noncomputable def dropG (xss : List (List Nat)) (ws gs : List Nat) (j : Int) : List Nat := if dropOk xss ws gs j then gs.eraseIdx j.toNat else []
end
end Go.Proofs.YtmecikeaogjmpaaDoor


namespace Go.Proofs.YtmecikeaogjmpaaDoor
open Go.RowKit

/-- how many units 1/128 has -/
def dyU : FloatKind → Nat
  | .f32 => 142
  | .f64 => 1067
/-- The word x is v/128. -/
def dy (k : FloatKind) (x : Nat) (v : Int) : Prop := x < 2 ^ k.format.width ∧ rng k.format x < k.format.infRung ∧ sval k.format x = v * 2 ^ dyU k
section
variable {k : FloatKind} {x y : Nat} {a b c : Int}
theorem fnan_fin (h : rng k.format x < k.format.infRung) : fnan k x = false := by rw [fnan_rng]; exact decide_eq_false (by omega)
theorem dy.num (h : dy k x a) : fnan k x = false := fnan_fin h.2.1
theorem dy.units (hx : dy k x a) : Go.Proofs.YtmecikeaogjmpaaDoor.units k.format (rng k.format x) = a.natAbs * 2 ^ dyU k := by
  have := congrArg Int.natAbs hx.2.2
  rw [Int.natAbs_mul, Int.natAbs_pow] at this
  unfold sval at this
  split at this <;> simpa using this
theorem dy.sgn (hx : dy k x a) : (Go.Proofs.YtmecikeaogjmpaaDoor.sgn k.format x = true → a ≤ 0) ∧ (Go.Proofs.YtmecikeaogjmpaaDoor.sgn k.format x = false → 0 ≤ a) := by
  have hp : (0 : Int) < 2 ^ dyU k := Int.pow_pos (by decide)
  have := hx.2.2
  unfold sval at this
  constructor <;> intro hs <;> rw [hs] at this
  · have h0 : a * 2 ^ dyU k ≤ 0 := by rw [← this]; simp
    exact Int.le_of_mul_le_mul_right (by rw [Int.zero_mul]; exact h0) hp
  · have h0 : 0 ≤ a * 2 ^ dyU k := by rw [← this]; simp
    exact Int.le_of_mul_le_mul_right (by rw [Int.zero_mul]; exact h0) hp
end
end Go.Proofs.YtmecikeaogjmpaaDoor


namespace Go.Proofs.YtmecikeaogjmpaaDoor
open Go.RowKit

def w2w (k : Nat) : Nat := fop .quo .f32 (FloatKind.f32.nearest ((k : Int) - 8)) 1073741824
def g2w (k : Nat) : Nat := fop .quo .f32 (FloatKind.f32.nearest (1 + (k : Int))) 1073741824
def H9 (y : Nat) : Prop := ∃ k : Nat, k < 9 ∧ y = hqw k
def W17 (y : Nat) : Prop := ∃ k : Nat, k < 17 ∧ y = w2w k
def G4 (y : Nat) : Prop := ∃ k : Nat, k < 4 ∧ y = g2w k
def Q17 (y : Nat) : Prop := ∃ k : Nat, k < 17 ∧ y = qw k
/-! ### tables -/
def dyb (x : Nat) (v : Int) : Bool := decide (x < 2 ^ FloatKind.f32.format.width) && decide (rng FloatKind.f32.format x < FloatKind.f32.format.infRung) && decide (sval FloatKind.f32.format x = v * 2 ^ dyU .f32)
theorem dyb_is {x : Nat} {v : Int} (h : dyb x v = true) : dy .f32 x v := by
  unfold dyb at h
  simp only [Bool.and_eq_true, decide_eq_true_eq] at h
  exact ⟨h.1.1, h.1.2, h.2⟩
theorem tH : ∀ k : Fin 9, (dyb (hqw k) (64 * ((k.val : Int) - 4)) && fin (hqw k) && fin (fop .mul .f32 (hqw k) 1073741824)) = true := by decide +kernel
theorem tW : ∀ k : Fin 17, (dyb (w2w k) (64 * ((k.val : Int) - 8)) && fin (w2w k)) = true := by decide +kernel
theorem tG : ∀ k : Fin 4, (dyb (g2w k) (64 * ((k.val : Int) + 1)) && least (g2w k)) = true := by decide +kernel
theorem tQ : ∀ k : Fin 17, (dyb (qw k) (32 * ((k.val : Int) - 8)) && fin (qw k) && fin (fop .quo .f32 (qw k) 1073741824)) = true := by decide +kernel
theorem tS : ∀ r : Fin 9, ∀ s : Fin 17, (fop .mul .f32 (fop .mul .f32 (hqw r) 1073741824) (fop .quo .f32 (qw s) 1073741824) == fop .mul .f32 (hqw r) (qw s)) = true := by decide +kernel
theorem hH {y : Nat} (h : H9 y) : ∃ v : Int, v.natAbs ≤ 4 ∧ dy .f32 y (64 * v) ∧ fin y = true ∧ fin (fop .mul .f32 y 1073741824) = true := by
  obtain ⟨k, hk, rfl⟩ := h
  have := tH ⟨k, hk⟩
  simp only [Bool.and_eq_true] at this
  exact ⟨(k : Int) - 4, by omega, dyb_is this.1.1, this.1.2, this.2⟩
theorem hW {y : Nat} (h : W17 y) : ∃ v : Int, v.natAbs ≤ 8 ∧ dy .f32 y (64 * v) ∧ fin y = true := by
  obtain ⟨k, hk, rfl⟩ := h
  have := tW ⟨k, hk⟩
  simp only [Bool.and_eq_true] at this
  exact ⟨(k : Int) - 8, by omega, dyb_is this.1, this.2⟩
theorem hG {y : Nat} (h : G4 y) : ∃ v : Nat, v ≤ 4 ∧ dy .f32 y (64 * (v : Int)) ∧ least y = true := by
  obtain ⟨k, hk, rfl⟩ := h
  have := tG ⟨k, hk⟩
  simp only [Bool.and_eq_true] at this
  exact ⟨k + 1, by omega, dyb_is this.1, this.2⟩
theorem hQ {y : Nat} (h : Q17 y) : ∃ v : Int, v.natAbs ≤ 8 ∧ dy .f32 y (32 * v) ∧ fin y = true ∧ fin (fop .quo .f32 y 1073741824) = true := by
  obtain ⟨k, hk, rfl⟩ := h
  have := tQ ⟨k, hk⟩
  simp only [Bool.and_eq_true] at this
  exact ⟨(k : Int) - 8, by omega, dyb_is this.1.1, this.1.2, this.2⟩
theorem hS {a q : Nat} (h : H9 a) (h2 : Q17 q) : fop .mul .f32 (fop .mul .f32 a 1073741824) (fop .quo .f32 q 1073741824) = fop .mul .f32 a q := by
  obtain ⟨r, hr, rfl⟩ := h
  obtain ⟨s, hs, rfl⟩ := h2
  exact beq_iff_eq.1 (tS ⟨r, hr⟩ ⟨s, hs⟩)
/-! ### what is missed -/
section
variable {xs x ws gs : List Nat} {xss : List (List Nat)} {n m i : Nat}
theorem getD_H {α : Type} {p : α → Prop} {l : List α} (h : ∀ y ∈ l, p y) {k : Nat} (hk : k < l.length) (d : α) : p (l.getD k d) := by
  have : l.getD k d = l[k] := by simp [List.getD, hk]
  rw [this]; exact h _ (List.getElem_mem hk)
/-- A design of halves. -/
structure DDok (xss : List (List Nat)) (ws gs : List Nat) (n : Nat) : Prop where
  m1 : 1 ≤ xss.length
  m2 : xss.length ≤ 10
  n1 : 1 ≤ n
  n2 : n ≤ 3
  rows : ∀ xs ∈ xss, xs.length = n ∧ ∀ y ∈ xs, H9 y
  wl : ws.length = xss.length
  gl : gs.length = xss.length
  hw : ∀ y ∈ ws, W17 y
  hg : ∀ y ∈ gs, G4 y
/-! ### what is valid -/
theorem mem_app {α : Type} {p : α → Prop} {l r : List α} (h1 : ∀ y ∈ l, p y) (h2 : ∀ y ∈ r, p y) : ∀ y ∈ l ++ r, p y := fun y hy => by
  rcases List.mem_append.1 hy with h | h
  · exact h1 y h
  · exact h2 y h
theorem mem_one {α : Type} {p : α → Prop} {a : α} (h : p a) : ∀ y ∈ [a], p y := fun y hy => by rw [List.mem_singleton.1 hy]; exact h
end
/-- All that the law asks of a drawn design, and of currents. -/
structure RtF (xss : List (List Nat)) (ws gs x : List Nat) (S : Nat) : Prop where
  hS : S ≤ 655360
  hX : Cans xss
  hXw : ∀ y ∈ ws, Can .f32 y
  hXg : ∀ y ∈ gs, Can .f32 y
  hadd : mergeOk xss [x] ws gs [1073741824] [1065353216] = true
  hdrop : dropOk (xss ++ [x]) (ws ++ [1073741824]) (gs ++ [1065353216]) (xss.length : Int) = true
  hdX : dropX (xss ++ [x]) (ws ++ [1073741824]) (gs ++ [1065353216]) (xss.length : Int) = xss
  hdW : dropW (xss ++ [x]) (ws ++ [1073741824]) (gs ++ [1065353216]) (xss.length : Int) = ws
  hdG : dropG (xss ++ [x]) (ws ++ [1073741824]) (gs ++ [1065353216]) (xss.length : Int) = gs
  htwo : mergeOk xss xss ws gs ws gs = true
  fit1 : fitsD xss ws gs x = true
  fit2 : fitsD (xss ++ xss) (ws ++ ws) (gs ++ gs) x = true
  dy1 : dy .f32 (squareD xss ws gs x) (S : Int)
  dy2 : dy .f32 (squareD (xss ++ xss) (ws ++ ws) (gs ++ gs) x) (2 * S : Int)
/-- A drawn design, and where it lies. -/
structure DX where
  p : ((Option Addr × Nat) × (Nat → Option Addr × Nat)) × (Option Addr × Nat) × (Option Addr × Nat)
  xss : List (List Nat)
  ws : List Nat
  gs : List Nat
  n : Nat
  at' : Nat
  sd : Nat
def DX.v (x : DX) : Value := .agg #[.slice x.p.1.1.1 x.xss.length x.p.1.1.2, .slice x.p.2.1.1 x.ws.length x.p.2.1.2, .slice x.p.2.2.1 x.gs.length x.p.2.2.2]
theorem rents_nil {t : TypeId} {f : Nat → Option Addr × Nat} : rents t f [] = [] := rfl
end Go.Proofs.YtmecikeaogjmpaaDoor


namespace Go.Proofs.YtmecikeaogjmpaaDoor
open Go.RowKit
set_option linter.unusedVariables false
set_option linter.unusedSimpArgs false
set_option maxRecDepth 20000

theorem zero112_Dd : (Tryd.prog.info? 112).bind (·.zero) = some (Value.agg #[Value.slice none 0 0, Value.slice none 0 0, Value.slice none 0 0]) := by kernel_rfl
theorem known35_Dd : Known Tryd.prog 35 := Known.mk' Tryd.func35 (by kernel_rfl)
theorem lay112_Dd : Lay Tryd.prog 112 [Value.slice none 0 0, Value.slice none 0 0, Value.slice none 0 0] [(0, 1), (1, 1), (2, 1)] := Lay.mk' (by kernel_rfl) (by kernel_rfl)
theorem sz112_Dd : (Tryd.prog.info? 112).map (·.size) = some 3 := by kernel_rfl
theorem elt90_Dd : Elt Tryd.prog 90 [Value.float .f32 0] 4 := Elt.mk' (by kernel_rfl) (by decide)
theorem sz110_Dd : (Tryd.prog.info? 110).map (·.size) = some 1 := by kernel_rfl
theorem fb110_Dd : flatB Tryd.prog 110 = true := by kernel_rfl
theorem elt39_Dd : Elt Tryd.prog 39 [Value.slice none 0 0] 24 := Elt.mk' (by kernel_rfl) (by decide)
theorem mixed_Dd : Tryd.prog.follows .mixedOrders = true := by kernel_rfl
theorem sz39_Dd : (Tryd.prog.info? 39).map (·.size) = some 1 := by kernel_rfl
theorem fb39_Dd : flatB Tryd.prog 39 = true := by kernel_rfl
theorem sz5_Dd : (Tryd.prog.info? 5).map (·.size) = some 1 := by kernel_rfl
theorem fb5_Dd : flatB Tryd.prog 5 = true := by kernel_rfl
attribute [local irreducible] fop fcmp fconv fneg fabs List.getD qw hqw w2w g2w uw

theorem c_drawOk {w0 : World} {a : Option Addr} {c q n sd : Nat} {bs : List Int} (hA : Cl w0 a (bl bs)) (hb : Bytes bs) (hl : bs.length ≤ 2000000) (hn : n ≤ 90000) (hsd : sd < 18446744073709551616) : Mut Tryd.prog 61 [.pointer (some (adr (some ⟨q, 0, none⟩) 0))] w0 [⟨some ⟨q, 0, none⟩, [.slice a bs.length c, .int .i64 ((n : Nat) : Int), .int .u64 ((sd : Nat) : Int)], 3, 87⟩] (fun x : {x : DX // DDok x.xss x.ws x.gs x.n ∧ (n ≤ x.at' ∧ x.at' ≤ n + 60) ∧ x.sd < 18446744073709551616} => x.1.v) (fun x => ⟨some ⟨q, 0, none⟩, [.slice a bs.length c, .int .i64 ((x.1.at' : Nat) : Int), .int .u64 ((x.1.sd : Nat) : Int)], 3, 87⟩ :: ⟨x.1.p.2.2.1, fl (x.1.gs), x.1.p.2.2.2 * 1, 90⟩ :: ⟨x.1.p.2.1.1, fl (x.1.ws), x.1.p.2.1.2 * 1, 90⟩ :: ⟨x.1.p.1.1.1, hd x.1.p.1.2 (x.1.xss), x.1.p.1.1.2 * 1, 39⟩ :: rents 90 x.1.p.1.2 (x.1.xss)) := by
  refine Mut.enter Tryd.func61 rfl Tryd.ntmps61 (Nat.le_of_ble_eq_true rfl) ?_
  intro F
  haveI hne17 : Nonempty {x : Nat × Nat // x.1 < 17 ∧ x.2 < 18446744073709551616} := ⟨⟨(0, 0), by decide, by decide⟩⟩
  haveI hne4 : Nonempty {x : Nat × Nat // x.1 < 4 ∧ x.2 < 18446744073709551616} := ⟨⟨(0, 0), by decide, by decide⟩⟩
  refine V.seq ?_
  refine V.region ?_
  refine VL.new1 (.inl rfl) rfl (by decide) (yn_alloc rfl zero112_Dd rfl) ?_
  intro b2
  refine VL.nil ?_
  refine VE.then_wp ?_
  refine V.seq ?_
  refine V.region ?_
  refine VL.r (.inl rfl) rfl (by decide) (yr_move rfl rfl) ?_
  refine VL.c (.inl rfl) rfl (by decide) (yc_callf rfl known35_Dd (.cons rfl (.cons rfl .nil)) (by apply Pick.one; repeat (first | exact Rem.here | apply Rem.there | apply Rem.thereS)) (c_pick (m := 3) hA hb (by omega) (by omega) (by omega) (by decide) (by decide))) ?_
  rintro ⟨⟨x9, s9⟩, hx9, hs9⟩
  dsimp only at hx9 hs9
  refine VL.r (.inl rfl) rfl (by decide) (yr_addN (1 + x9) rfl rfl rfl (by push_cast; rfl) (by omega)) ?_
  refine VL.r (.inl rfl) rfl (by decide) (yr_assign rfl rfl) ?_
  refine VL.nil ?_
  refine VE.then_wp ?_
  refine V.seq ?_
  refine V.region ?_
  refine VL.r (.inl rfl) rfl (by decide) (yr_build rfl lay112_Dd rfl .nil (by first | (simp; done) | (simp [vv]; done) | (simp [cn, cn1, cn0]; done)) rfl) ?_
  refine VL.new1 (.inl rfl) rfl (by decide) (yn_alloc rfl zero112_Dd rfl) ?_
  intro b4
  refine VL.s (.inl rfl) rfl (yc_store rfl sz112_Dd rfl rfl (by repeat (first | exact UpdF.here | apply UpdF.there | apply UpdF.thereS)) (.inr ⟨rfl, rfl⟩) rfl (by first | exact Nat.le_of_ble_eq_true rfl | simp) (by decide) rfl) ?_
  rintro ⟨⟩
  refine VL.nil ?_
  refine VE.then_wp ?_
  refine V.seq ?_
  refine V.seq ?_
  refine V.region ?_
  refine VL.r (.inl rfl) rfl (by decide) (yr_move rfl rfl) ?_
  refine VL.c (.inl rfl) rfl (by decide) (yc_callf rfl known35_Dd (.cons rfl (.cons rfl .nil)) (by apply Pick.one; repeat (first | exact Rem.here | apply Rem.there | apply Rem.thereS)) (c_pick (m := 10) hA hb (by omega) (by omega) (by omega) (by decide) (by decide))) ?_
  rintro ⟨⟨x13, s13⟩, hx13, hs13⟩
  dsimp only at hx13 hs13
  refine VL.r (.inl rfl) rfl (by decide) (yr_addN (1 + x13) rfl rfl rfl (by push_cast; rfl) (by omega)) ?_
  refine VL.r (.inl rfl) rfl (by decide) (yr_assign rfl rfl) ?_
  refine VL.nil ?_
  refine VE.then_wp ?_
  refine V.block ?_
  refine V.loopc (G := (List (List Nat)) × (Nat → Option Addr × Nat) × (Option Addr) × Nat × (List Nat) × (Option Addr) × Nat × (List Nat) × (Option Addr) × Nat × Nat × Nat) [(0, _), (2, _), (3, _), (4, _)] (fun ⟨xss, f, ah, ch, ws, aw, cw, gs, ag, cg, nn, sd⟩ => xss.length ≤ (1 + x13) ∧ (∀ xs ∈ xss, xs.length = (1 + x9) ∧ ∀ y ∈ xs, H9 y) ∧ (ws.length = xss.length ∧ gs.length = xss.length) ∧ (∀ y ∈ ws, W17 y) ∧ (∀ y ∈ gs, G4 y) ∧ (n ≤ nn ∧ nn ≤ n + 2 + 5 * xss.length) ∧ sd < 18446744073709551616) (fun ⟨xss, f, ah, ch, ws, aw, cw, gs, ag, cg, nn, sd⟩ => (⟨some ⟨b4, 0, none⟩, [.slice ah xss.length ch, .slice aw ws.length cw, .slice ag gs.length cg], 3, 112⟩ :: ⟨ag, fl gs, cg * 1, 90⟩ :: ⟨aw, fl ws, cw * 1, 90⟩ :: ⟨ah, hd f xss, ch * 1, 39⟩ :: ⟨some ⟨b2, 0, none⟩, [.slice none 0 0, .slice none 0 0, .slice none 0 0], 3, 112⟩ :: ⟨some ⟨q, 0, none⟩, [.slice a bs.length c, .int .i64 ((nn : Nat) : Int), .int .u64 ((sd : Nat) : Int)], 3, 87⟩ :: (rents 90 f xss ++ F))) (fun ⟨xss, f, ah, ch, ws, aw, cw, gs, ag, cg, nn, sd⟩ => [(5, .int .i64 (((1 + x13) - xss.length : Nat) : Int))]) (fun ⟨xss, f, ah, ch, ws, aw, cw, gs, ag, cg, nn, sd⟩ => (1 + x13) - xss.length) ([], fun _ => (none, 0), none, 0, [], none, 0, [], none, 0, n + 1 + 1, s13) (.cons rfl (.cons rfl (.cons rfl (.cons rfl .nil)))) (.cons rfl .nil) ?_ ?_ ?_
  · exact (fun w hw => by
      have h9 := ((hw.nilU 90).nilU 90).nilU 39
      dsimp only
      rw [rents_nil, List.nil_append]
      exact h9.pick (by apply Pick.cons1; (· repeat (first | exact Rem.here | exact Rem.all | exact Rem.hereS | apply Rem.there | apply Rem.thereS)); apply Pick.cons1; (· repeat (first | exact Rem.here | exact Rem.all | exact Rem.hereS | apply Rem.there | apply Rem.thereS)); apply Pick.cons1; (· repeat (first | exact Rem.here | exact Rem.all | exact Rem.hereS | apply Rem.there | apply Rem.thereS)); apply Pick.cons1; (· repeat (first | exact Rem.here | exact Rem.all | exact Rem.hereS | apply Rem.there | apply Rem.thereS)); apply Pick.cons1; (· repeat (first | exact Rem.here | exact Rem.all | exact Rem.hereS | apply Rem.there | apply Rem.thereS)); apply Pick.cons1; (· repeat (first | exact Rem.here | exact Rem.all | exact Rem.hereS | apply Rem.there | apply Rem.thereS)); apply Pick.last; repeat (first | exact Rem.here | exact Rem.all | exact Rem.hereS | apply Rem.there | apply Rem.thereS)))
  · exact (by exact ⟨Nat.zero_le _, fun xs h => (by cases h), ⟨rfl, rfl⟩, fun y h => (by cases h), fun y h => (by cases h), ⟨by show n ≤ n + 1 + 1; omega, by show n + 1 + 1 ≤ n + 2 + 5 * 0; omega⟩, hs13⟩)
  rintro ⟨xss, f, ah, ch, ws, aw, cw, gs, ag, cg, nn, sd⟩ ⟨hl9, hr9, ⟨hw9, hg9⟩, hW9, hG9, hn9, hs9⟩
  show V _ _ _ (⟨some ⟨b4, 0, none⟩, [.slice ah xss.length ch, .slice aw ws.length cw, .slice ag gs.length cg], 3, 112⟩ :: ⟨ag, fl gs, cg * 1, 90⟩ :: ⟨aw, fl ws, cw * 1, 90⟩ :: ⟨ah, hd f xss, ch * 1, 39⟩ :: ⟨some ⟨b2, 0, none⟩, [.slice none 0 0, .slice none 0 0, .slice none 0 0], 3, 112⟩ :: ⟨some ⟨q, 0, none⟩, [.slice a bs.length c, .int .i64 ((nn : Nat) : Int), .int .u64 ((sd : Nat) : Int)], 3, 87⟩ :: (rents 90 f xss ++ F)) ([(5, .int .i64 (((1 + x13) - xss.length : Nat) : Int))] ++ [(0, _), (2, _), (3, _), (4, _)]) _ _
  refine V.seq ?_
  refine V.seq ?_
  refine V.region ?_
  refine VL.r (.inl rfl) rfl (by decide) (yr_move rfl rfl) ?_
  refine VL.r (.inl rfl) rfl (by decide) (yr_icmp rfl (.inr (.inr (.inr (.inr (.inl rfl))))) rfl rfl) ?_
  refine VL.nil ?_
  refine VE.then_wp ?_
  refine V.cond rfl (fun h1 => ?_) (fun h1 => ?_)
  · skip
    replace h1 := ic_gtr h1
    refine V.skip ?_
    refine VE.then_wp ?_
    refine V.seq ?_
    refine V.block ?_
    refine V.seq ?_
    refine V.region ?_
    refine VL.new1 (.inl rfl) rfl (by decide) (yn_lit rfl Tryd.underlying39 elt90_Dd rfl (by decide) .nil (by first | (simp; done) | (simp [cn, cn1, cn0]; done)) rfl rfl rfl) ?_
    intro b19
    refine VL.r (.inl rfl) rfl (by decide) (yr_assign rfl rfl) ?_
    refine VL.nil ?_
    refine VE.then_wp ?_
    refine V.seq ?_
    refine V.seq ?_
    refine V.region ?_
    refine VL.r (.inl rfl) rfl (by decide) (yr_assign (u := .int .i64 0) rfl rfl) ?_
    refine VL.nil ?_
    refine VE.then_wp ?_
    refine V.block ?_
    refine V.loopc (G := (List Nat) × (Option Addr) × Nat × Nat × Nat) [(0, _), (2, _), (3, _), (4, _), (5, _)] (fun ⟨xs, ar, cr, nn1, sd1⟩ => xs.length ≤ (1 + x9) ∧ (∀ y ∈ xs, H9 y) ∧ (nn ≤ nn1 ∧ nn1 ≤ nn + xs.length) ∧ sd1 < 18446744073709551616) (fun ⟨xs, ar, cr, nn1, sd1⟩ => (⟨ar, fl xs, cr * 1, 90⟩ :: ⟨some ⟨b4, 0, none⟩, [.slice ah xss.length ch, .slice aw ws.length cw, .slice ag gs.length cg], 3, 112⟩ :: ⟨ag, fl gs, cg * 1, 90⟩ :: ⟨aw, fl ws, cw * 1, 90⟩ :: ⟨ah, hd f xss, ch * 1, 39⟩ :: ⟨some ⟨b2, 0, none⟩, [.slice none 0 0, .slice none 0 0, .slice none 0 0], 3, 112⟩ :: ⟨some ⟨q, 0, none⟩, [.slice a bs.length c, .int .i64 ((nn1 : Nat) : Int), .int .u64 ((sd1 : Nat) : Int)], 3, 87⟩ :: (rents 90 f xss ++ F))) (fun ⟨xs, ar, cr, nn1, sd1⟩ => [(6, .slice ar xs.length cr), (7, .int .i64 (xs.length : Int))]) (fun ⟨xs, ar, cr, nn1, sd1⟩ => (1 + x9) - xs.length) ([], some ⟨b19, 0, none⟩, 0, nn, sd) (.cons rfl (.cons rfl (.cons rfl (.cons rfl (.cons rfl .nil))))) (.cons rfl (.cons rfl .nil)) ?_ ?_ ?_
    · exact (fun w hw => by dsimp only; rw [fl_nil]; exact hw.pick (by apply Pick.cons1; (· repeat (first | exact Rem.here | exact Rem.all | exact Rem.hereS | apply Rem.there | apply Rem.thereS)); apply Pick.cons1; (· repeat (first | exact Rem.here | exact Rem.all | exact Rem.hereS | apply Rem.there | apply Rem.thereS)); apply Pick.cons1; (· repeat (first | exact Rem.here | exact Rem.all | exact Rem.hereS | apply Rem.there | apply Rem.thereS)); apply Pick.cons1; (· repeat (first | exact Rem.here | exact Rem.all | exact Rem.hereS | apply Rem.there | apply Rem.thereS)); apply Pick.cons1; (· repeat (first | exact Rem.here | exact Rem.all | exact Rem.hereS | apply Rem.there | apply Rem.thereS)); apply Pick.cons1; (· repeat (first | exact Rem.here | exact Rem.all | exact Rem.hereS | apply Rem.there | apply Rem.thereS)); apply Pick.cons1; (· repeat (first | exact Rem.here | exact Rem.all | exact Rem.hereS | apply Rem.there | apply Rem.thereS)); apply Pick.app1; (· repeat (first | exact Rem.here | exact Rem.all | exact Rem.hereS | apply Rem.there | apply Rem.thereS)); apply Pick.last; repeat (first | exact Rem.here | exact Rem.all | exact Rem.hereS | apply Rem.there | apply Rem.thereS)))
    · exact (by exact ⟨Nat.zero_le _, fun y h => (by cases h), ⟨Nat.le_refl _, Nat.le_refl _⟩, hs9⟩)
    rintro ⟨xs, ar, cr, nn1, sd1⟩ ⟨hm9, hx9, hn8, hs8⟩
    show V _ _ _ (⟨ar, fl xs, cr * 1, 90⟩ :: ⟨some ⟨b4, 0, none⟩, [.slice ah xss.length ch, .slice aw ws.length cw, .slice ag gs.length cg], 3, 112⟩ :: ⟨ag, fl gs, cg * 1, 90⟩ :: ⟨aw, fl ws, cw * 1, 90⟩ :: ⟨ah, hd f xss, ch * 1, 39⟩ :: ⟨some ⟨b2, 0, none⟩, [.slice none 0 0, .slice none 0 0, .slice none 0 0], 3, 112⟩ :: ⟨some ⟨q, 0, none⟩, [.slice a bs.length c, .int .i64 ((nn1 : Nat) : Int), .int .u64 ((sd1 : Nat) : Int)], 3, 87⟩ :: (rents 90 f xss ++ F)) ([(6, .slice ar xs.length cr), (7, .int .i64 (xs.length : Int))] ++ [(0, _), (2, _), (3, _), (4, _), (5, _)]) _ _
    refine V.seq ?_
    refine V.seq ?_
    refine V.region ?_
    refine VL.r (.inl rfl) rfl (by decide) (yr_move rfl rfl) ?_
    refine VL.r (.inl rfl) rfl (by decide) (yr_move rfl rfl) ?_
    refine VL.r (.inl rfl) rfl (by decide) (yr_icmp rfl (.inr (.inr (.inl rfl))) rfl rfl) ?_
    refine VL.nil ?_
    refine VE.then_wp ?_
    refine V.cond rfl (fun h2 => ?_) (fun h2 => ?_)
    · skip
      replace h2 := ic_lss h2
      refine V.skip ?_
      refine VE.then_wp ?_
      refine V.seq ?_
      refine V.block ?_
      refine V.region ?_
      refine VL.r (.inl rfl) rfl (by decide) (yr_move rfl rfl) ?_
      refine VL.r (.inl rfl) rfl (by decide) (yr_move rfl rfl) ?_
      refine VL.c (.inl rfl) rfl (by decide) (yc_callf rfl known35_Dd (.cons rfl (.cons rfl .nil)) (by apply Pick.one; repeat (first | exact Rem.here | apply Rem.there | apply Rem.thereS)) (c_pick (m := 9) hA hb (by omega) (by omega) (by omega) (by decide) (by decide))) ?_
      rintro ⟨⟨x27, s27⟩, hx27, hs27⟩
      dsimp only at hx27 hs27
      refine VL.r (.inl rfl) rfl (by decide) (yr_int rfl rfl rfl (.inr (.inl ⟨rfl, wrap_in (by (try dsimp only); omega)⟩))) ?_
      refine VL.r (.inl rfl) rfl (by decide) (yr_ofInt rfl Tryd.underlying2 Tryd.underlying90 rfl) ?_
      refine VL.r (.inl rfl) rfl (by decide) (show YR _ _ _ (.float .f32 (hqw x27)) from (by unfold hqw; exact yr_float rfl (.inr (.inr (.inr rfl))) rfl rfl)) ?_
      refine VL.new1 (.inl rfl) rfl (by decide) (yn_lit rfl Tryd.underlying39 elt90_Dd rfl (by decide) (.cons rfl .nil) (by first | (simp; done) | (simp [cn, cn1, cn0]; done)) rfl rfl rfl) ?_
      intro b31
      refine VL.c (.inl rfl) rfl (by decide) (yc_appendz 1 rfl rfl Tryd.underlying39 elt90_Dd rfl rfl (by repeat (first | exact UpdF.here | apply UpdF.there | apply UpdF.thereS)) (by first | exact Sees.root (by assumption) | exact Sees.own (by repeat (first | exact List.mem_cons_self | exact List.mem_append_left _ (by assumption) | apply List.mem_cons_of_mem | apply List.mem_append_right)) | exact Sees.root (hR _ (by omega)) | exact Sees.own (RowsIn.mem (by repeat (first | exact RowsIn.here | exact RowsIn.last | apply RowsIn.there | apply RowsIn.thereS)) _ (by omega)) | exact Sees.own (WRowsIn.mem (by repeat (first | exact WRowsIn.here | exact WRowsIn.last | apply WRowsIn.there | apply WRowsIn.thereS)) _ (by omega))) rfl (by first | (rw [fl_length, Nat.mul_one]; done) | (rw [hd_length, Nat.mul_one]; done) | rw [hd_length] | rw [fl_length]) (by first | rfl | simp) (by first | rfl | exact fl_scal _ | exact hd_scal _ _) (by first | rfl | exact fl_scal _) (by omega) (by omega)) ?_
      rintro ⟨a32, c32⟩
      refine VL.r (.inl rfl) rfl (by decide) (yr_assign rfl rfl) ?_
      refine VL.nil ?_
      refine VE.block_normal ?_
      refine VE.then_wp ?_
      refine V.region ?_
      refine VL.r (.inl rfl) rfl (by decide) (yr_move rfl rfl) ?_
      refine VL.r (.inl rfl) rfl (by decide) (yr_int rfl rfl rfl (.inl ⟨rfl, wrap_in (by (try dsimp only); omega)⟩)) ?_
      refine VL.r (.inl rfl) rfl (by decide) (yr_assign rfl rfl) ?_
      refine VL.nil ?_
      refine VE.round (xs ++ [hqw x27], a32, c32, nn1 + 1, s27) ?_ ?_ ?_ ?_ ?_
      · exact (.cons (congrArg (fun n => some (Value.slice _ n _)) (by rw [List.length_append]; rfl)) (.cons (congrArg (fun i => some (Value.int .i64 i)) (by rw [List.length_append]; rfl)) .nil))
      · exact (.cons rfl (.cons rfl (.cons rfl (.cons rfl (.cons rfl .nil)))))
      · exact (fun w hw => by dsimp only; rw [← fl_snoc]; exact hw.pick (by apply Pick.cons1; (· repeat (first | exact Rem.here | exact Rem.all | exact Rem.hereS | apply Rem.there | apply Rem.thereS)); apply Pick.cons1; (· repeat (first | exact Rem.here | exact Rem.all | exact Rem.hereS | apply Rem.there | apply Rem.thereS)); apply Pick.cons1; (· repeat (first | exact Rem.here | exact Rem.all | exact Rem.hereS | apply Rem.there | apply Rem.thereS)); apply Pick.cons1; (· repeat (first | exact Rem.here | exact Rem.all | exact Rem.hereS | apply Rem.there | apply Rem.thereS)); apply Pick.cons1; (· repeat (first | exact Rem.here | exact Rem.all | exact Rem.hereS | apply Rem.there | apply Rem.thereS)); apply Pick.cons1; (· repeat (first | exact Rem.here | exact Rem.all | exact Rem.hereS | apply Rem.there | apply Rem.thereS)); apply Pick.cons1; (· repeat (first | exact Rem.here | exact Rem.all | exact Rem.hereS | apply Rem.there | apply Rem.thereS)); apply Pick.app1; (· repeat (first | exact Rem.here | exact Rem.all | exact Rem.hereS | apply Rem.there | apply Rem.thereS)); apply Pick.last; repeat (first | exact Rem.here | exact Rem.all | exact Rem.hereS | apply Rem.there | apply Rem.thereS)))
      · dsimp only
        simp only [List.length_append, List.length_cons, List.length_nil, Nat.zero_add]
        exact ⟨by omega, mem_app hx9 (mem_one ⟨x27, hx27, rfl⟩), ⟨by omega, by omega⟩, hs27⟩
      · dsimp only; rw [List.length_append]; show (1 + x9) - (xs.length + 1) < (1 + x9) - xs.length; omega
    · skip
      replace h2 := ic_lss' h2
      refine V.exit ?_
      refine VE.then_exit ?_
      refine VE.then_exit ?_
      refine VE.block_here ?_
      refine VE.then_wp ?_
      refine V.seq ?_
      refine V.region ?_
      refine VL.r (.inl rfl) rfl (by decide) (yr_fieldAddr rfl Tryd.underlying112 rfl rfl sz110_Dd (by decide) rfl) ?_
      refine VL.q (.inl rfl) rfl (by decide) (yq_load rfl fb110_Dd rfl (by first | exact Sees.root (by assumption) | exact Sees.own (by repeat (first | exact List.mem_cons_self | exact List.mem_append_left _ (by assumption) | apply List.mem_cons_of_mem | apply List.mem_append_right)) | exact Sees.root (hR _ (by omega)) | exact Sees.own (RowsIn.mem (by repeat (first | exact RowsIn.here | exact RowsIn.last | apply RowsIn.there | apply RowsIn.thereS)) _ (by omega)) | exact Sees.own (WRowsIn.mem (by repeat (first | exact WRowsIn.here | exact WRowsIn.last | apply WRowsIn.there | apply WRowsIn.thereS)) _ (by omega))) rfl) ?_
      refine VL.r (.inl rfl) rfl (by decide) (yr_move rfl rfl) ?_
      refine VL.new1 (.inl rfl) rfl (by decide) (yn_lit rfl Tryd.underlying110 elt39_Dd rfl (by decide) (.cons rfl .nil) (by first | (simp; done) | (simp [cn, cn1, cn0]; done)) rfl rfl rfl) ?_
      intro b36
      refine VL.c (.inl rfl) rfl (by decide) (yc_appendz 1 rfl rfl Tryd.underlying110 elt39_Dd rfl rfl (by repeat (first | exact UpdF.here | apply UpdF.there | apply UpdF.thereS)) (by first | exact Sees.root (by assumption) | exact Sees.own (by repeat (first | exact List.mem_cons_self | exact List.mem_append_left _ (by assumption) | apply List.mem_cons_of_mem | apply List.mem_append_right)) | exact Sees.root (hR _ (by omega)) | exact Sees.own (RowsIn.mem (by repeat (first | exact RowsIn.here | exact RowsIn.last | apply RowsIn.there | apply RowsIn.thereS)) _ (by omega)) | exact Sees.own (WRowsIn.mem (by repeat (first | exact WRowsIn.here | exact WRowsIn.last | apply WRowsIn.there | apply WRowsIn.thereS)) _ (by omega))) rfl (by first | (rw [fl_length, Nat.mul_one]; done) | (rw [hd_length, Nat.mul_one]; done) | rw [hd_length] | rw [fl_length]) (by first | rfl | simp) (by first | rfl | exact fl_scal _ | exact hd_scal _ _) (by first | rfl | exact fl_scal _) (by omega) (by omega)) ?_
      rintro ⟨a37, c37⟩
      refine VL.r (.inl rfl) rfl (by decide) (yr_fieldAddr rfl Tryd.underlying112 rfl rfl sz110_Dd (by decide) rfl) ?_
      refine VL.s (.inl rfl) rfl (yc_store rfl sz110_Dd rfl rfl (by repeat (first | exact UpdF.here | apply UpdF.there | apply UpdF.thereS)) (.inl ⟨rfl, rfl⟩) rfl (by first | exact Nat.le_of_ble_eq_true rfl | simp) (by decide) rfl) ?_
      rintro ⟨⟩
      refine VL.nil ?_
      refine VE.then_wp ?_
      refine V.seq ?_
      refine Dr.V.drawR [(0, 5), (1, 5), (2, 5), (3, 3), (4, 5), (5, 5), (6, 5), (7, 1), (8, 3), (9, 5), (10, 4)] [] [⟨some ⟨q, 0, none⟩, [.slice a bs.length c, .int .i64 ((nn1 : Nat) : Int), .int .u64 ((sd1 : Nat) : Int)], 3, 87⟩, ⟨aw, fl ws, cw * 1, 90⟩] _ mixed_Dd (by kernel_rfl) (fun w hw => Hp.pickS hw (by apply Pick.e2; all_goals (repeat (first | exact Rem.here | exact Rem.all | exact Rem.hereS | apply Rem.there | apply Rem.thereS)))) ?_
      refine Dr.SW.r rfl (.inl rfl) rfl (by decide) (yr_fieldAddr rfl Tryd.underlying112 rfl rfl sz39_Dd (by decide) rfl) ?_
      refine Dr.SW.p rfl (.inl rfl) rfl (by decide) (yq_load rfl fb39_Dd rfl (by first | exact Sees.root (by assumption) | exact Sees.own (by (try simp only [List.append_assoc, List.cons_append, List.nil_append]); repeat (first | exact List.mem_cons_self | exact List.mem_append_left _ (by assumption) | apply List.mem_cons_of_mem | apply List.mem_append_right)) | exact Sees.root (hR _ (by omega)) | exact Sees.own (RowsIn.mem (by (try simp only [List.append_assoc, List.cons_append, List.nil_append]); repeat (first | exact RowsIn.here | exact RowsIn.last | apply RowsIn.there | apply RowsIn.thereS)) _ (by omega)) | exact Sees.own (WRowsIn.mem (by (try simp only [List.append_assoc, List.cons_append, List.nil_append]); repeat (first | exact WRowsIn.here | exact WRowsIn.last | apply WRowsIn.there | apply WRowsIn.thereS)) _ (by omega))) rfl) ?_
      refine Dr.SW.r rfl (.inl rfl) rfl (by decide) (yr_move rfl rfl) ?_
      refine Dr.SW.c rfl (.inl rfl) rfl (by decide) (yc_callfR rfl known35_Dd (.cons rfl (.cons rfl .nil)) (by apply Pick.one; repeat (first | exact Rem.here | exact Rem.all | exact Rem.hereS | apply Rem.there | apply Rem.thereS)) (c_pick (m := 17) hA hb (by omega) (by omega) (by omega) (by decide) (by decide))) ?_
      rintro ⟨⟨x42, s42⟩, hx42, hs42⟩
      dsimp only at hx42 hs42
      refine Dr.SW.r rfl (.inl rfl) rfl (by decide) (yr_int rfl rfl rfl (.inr (.inl ⟨rfl, wrap_in (by (try dsimp only); omega)⟩))) ?_
      refine Dr.SW.r rfl (.inl rfl) rfl (by decide) (yr_ofInt rfl Tryd.underlying2 Tryd.underlying90 rfl) ?_
      refine Dr.SW.r rfl (.inl rfl) rfl (by decide) (show YR _ _ _ (.float .f32 (w2w x42)) from (by unfold w2w; exact yr_float rfl (.inr (.inr (.inr rfl))) rfl rfl)) ?_
      refine Dr.SW.new1 rfl (.inl rfl) rfl (by decide) (yn_lit rfl Tryd.underlying39 elt90_Dd rfl (by decide) (.cons rfl .nil) (by first | (simp; done) | (simp [cn, cn1, cn0]; done)) rfl rfl rfl) ?_
      intro b46
      refine Dr.SW.c rfl (.inl rfl) rfl (by decide) (yc_appendz 1 rfl rfl Tryd.underlying39 elt90_Dd rfl rfl (Dr.UpdF.app (by repeat (first | exact UpdF.here | apply UpdF.there | apply UpdF.thereS))) (by first | exact Sees.root (by assumption) | exact Sees.own (by (try simp only [List.append_assoc, List.cons_append, List.nil_append]); repeat (first | exact List.mem_cons_self | exact List.mem_append_left _ (by assumption) | apply List.mem_cons_of_mem | apply List.mem_append_right)) | exact Sees.root (hR _ (by omega)) | exact Sees.own (RowsIn.mem (by (try simp only [List.append_assoc, List.cons_append, List.nil_append]); repeat (first | exact RowsIn.here | exact RowsIn.last | apply RowsIn.there | apply RowsIn.thereS)) _ (by omega)) | exact Sees.own (WRowsIn.mem (by (try simp only [List.append_assoc, List.cons_append, List.nil_append]); repeat (first | exact WRowsIn.here | exact WRowsIn.last | apply WRowsIn.there | apply WRowsIn.thereS)) _ (by omega))) rfl (by first | (rw [fl_length, Nat.mul_one]; done) | (rw [hd_length, Nat.mul_one]; done) | rw [hd_length] | rw [fl_length]) (by first | rfl | simp) (by first | rfl | exact fl_scal _ | exact hd_scal _ _) (by first | rfl | exact fl_scal _) (by omega) (by omega)) ?_
      rintro ⟨a47, c47⟩
      refine Dr.SW.r rfl (.inl rfl) rfl (by decide) (yr_fieldAddr rfl Tryd.underlying112 rfl rfl sz39_Dd (by decide) rfl) ?_
      refine Dr.SW.t rfl (.inl rfl) rfl (yc_store rfl sz39_Dd rfl rfl (by repeat (first | exact UpdF.here | apply UpdF.there | apply UpdF.thereS)) (.inl ⟨rfl, rfl⟩) rfl (by first | exact Nat.le_of_ble_eq_true rfl | simp) (by decide) rfl) ?_
      rintro ⟨⟩
      refine Dr.SW.done ?_
      refine Dr.eqO (by simp only [List.append_nil, List.append_assoc, List.cons_append, List.nil_append] <;> rfl) ?_
      refine VE.then_wp ?_
      refine Dr.V.drawR [(0, 5), (1, 5), (2, 5), (3, 3), (4, 5), (5, 5), (6, 5), (7, 1), (8, 3), (9, 5), (10, 4)] [] [⟨some ⟨q, 0, none⟩, [.slice a bs.length c, .int .i64 ((nn1 + 1 : Nat) : Int), .int .u64 ((s42 : Nat) : Int)], 3, 87⟩, ⟨a47, fl (ws ++ [w2w x42]), c47 * 1, 90⟩, ⟨ag, fl gs, cg * 1, 90⟩] _ mixed_Dd (by kernel_rfl) (fun w hw => by rw [← fl_snoc]; exact Hp.pickS hw (by apply Pick.e3x; all_goals (repeat (first | exact Rem.here | exact Rem.all | exact Rem.hereS | apply Rem.there | apply Rem.thereS)))) ?_
      refine Dr.SW.r rfl (.inl rfl) rfl (by decide) (yr_fieldAddr rfl Tryd.underlying112 rfl rfl sz39_Dd (by decide) rfl) ?_
      refine Dr.SW.p rfl (.inl rfl) rfl (by decide) (yq_load rfl fb39_Dd rfl (by first | exact Sees.root (by assumption) | exact Sees.own (by (try simp only [List.append_assoc, List.cons_append, List.nil_append]); repeat (first | exact List.mem_cons_self | exact List.mem_append_left _ (by assumption) | apply List.mem_cons_of_mem | apply List.mem_append_right)) | exact Sees.root (hR _ (by omega)) | exact Sees.own (RowsIn.mem (by (try simp only [List.append_assoc, List.cons_append, List.nil_append]); repeat (first | exact RowsIn.here | exact RowsIn.last | apply RowsIn.there | apply RowsIn.thereS)) _ (by omega)) | exact Sees.own (WRowsIn.mem (by (try simp only [List.append_assoc, List.cons_append, List.nil_append]); repeat (first | exact WRowsIn.here | exact WRowsIn.last | apply WRowsIn.there | apply WRowsIn.thereS)) _ (by omega))) rfl) ?_
      refine Dr.SW.r rfl (.inl rfl) rfl (by decide) (yr_move rfl rfl) ?_
      refine Dr.SW.c rfl (.inl rfl) rfl (by decide) (yc_callfR rfl known35_Dd (.cons rfl (.cons rfl .nil)) (by apply Pick.one; repeat (first | exact Rem.here | exact Rem.all | exact Rem.hereS | apply Rem.there | apply Rem.thereS)) (c_pick (m := 4) hA hb (by omega) (by omega) (by omega) (by decide) (by decide))) ?_
      rintro ⟨⟨x52, s52⟩, hx52, hs52⟩
      dsimp only at hx52 hs52
      refine Dr.SW.r rfl (.inl rfl) rfl (by decide) (yr_int (r := 1 + (x52 : Int)) rfl rfl rfl (.inl ⟨rfl, wrap_in (by (try dsimp only); omega)⟩)) ?_
      refine Dr.SW.r rfl (.inl rfl) rfl (by decide) (yr_ofInt rfl Tryd.underlying2 Tryd.underlying90 rfl) ?_
      refine Dr.SW.r rfl (.inl rfl) rfl (by decide) (show YR _ _ _ (.float .f32 (g2w x52)) from (by unfold g2w; exact yr_float rfl (.inr (.inr (.inr rfl))) rfl rfl)) ?_
      refine Dr.SW.new1 rfl (.inl rfl) rfl (by decide) (yn_lit rfl Tryd.underlying39 elt90_Dd rfl (by decide) (.cons rfl .nil) (by first | (simp; done) | (simp [cn, cn1, cn0]; done)) rfl rfl rfl) ?_
      intro b56
      refine Dr.SW.c rfl (.inl rfl) rfl (by decide) (yc_appendz 1 rfl rfl Tryd.underlying39 elt90_Dd rfl rfl (Dr.UpdF.app (by repeat (first | exact UpdF.here | apply UpdF.there | apply UpdF.thereS))) (by first | exact Sees.root (by assumption) | exact Sees.own (by (try simp only [List.append_assoc, List.cons_append, List.nil_append]); repeat (first | exact List.mem_cons_self | exact List.mem_append_left _ (by assumption) | apply List.mem_cons_of_mem | apply List.mem_append_right)) | exact Sees.root (hR _ (by omega)) | exact Sees.own (RowsIn.mem (by (try simp only [List.append_assoc, List.cons_append, List.nil_append]); repeat (first | exact RowsIn.here | exact RowsIn.last | apply RowsIn.there | apply RowsIn.thereS)) _ (by omega)) | exact Sees.own (WRowsIn.mem (by (try simp only [List.append_assoc, List.cons_append, List.nil_append]); repeat (first | exact WRowsIn.here | exact WRowsIn.last | apply WRowsIn.there | apply WRowsIn.thereS)) _ (by omega))) rfl (by first | (rw [fl_length, Nat.mul_one]; done) | (rw [hd_length, Nat.mul_one]; done) | rw [hd_length] | rw [fl_length]) (by first | rfl | simp) (by first | rfl | exact fl_scal _ | exact hd_scal _ _) (by first | rfl | exact fl_scal _) (by omega) (by omega)) ?_
      rintro ⟨a57, c57⟩
      refine Dr.SW.r rfl (.inl rfl) rfl (by decide) (yr_fieldAddr rfl Tryd.underlying112 rfl rfl sz39_Dd (by decide) rfl) ?_
      refine Dr.SW.t rfl (.inl rfl) rfl (yc_store rfl sz39_Dd rfl rfl (by repeat (first | exact UpdF.here | apply UpdF.there | apply UpdF.thereS)) (.inl ⟨rfl, rfl⟩) rfl (by first | exact Nat.le_of_ble_eq_true rfl | simp) (by decide) rfl) ?_
      rintro ⟨⟩
      refine Dr.SW.done ?_
      refine Dr.eqO (by simp only [List.append_nil, List.append_assoc, List.cons_append, List.nil_append] <;> rfl) ?_
      refine VE.block_normal ?_
      refine VE.then_wp ?_
      refine V.region ?_
      refine VL.r (.inl rfl) rfl (by decide) (yr_move rfl rfl) ?_
      refine VL.r (.inl rfl) rfl (by decide) (yr_int rfl rfl rfl (.inr (.inl ⟨rfl, wrap_in (by (try dsimp only); omega)⟩))) ?_
      refine VL.r (.inl rfl) rfl (by decide) (yr_assign rfl rfl) ?_
      refine VL.nil ?_
      refine VE.round (xss ++ [xs], upd f xss.length (ar, cr), a37, c37, ws ++ [w2w x42], a47, c47, gs ++ [g2w x52], a57, c57, nn1 + 1 + 1, s52) ?_ ?_ ?_ ?_ ?_
      · exact (.cons (congrArg (fun i => some (Value.int .i64 i)) (by rw [List.length_append]; show _ = (((1 + x13) - (xss.length + 1) : Nat) : Int); omega)) .nil)
      · exact (.cons rfl (.cons rfl (.cons rfl (.cons rfl .nil))))
      · exact (fun w hw => by
          dsimp only
          simp only [← hd_snoc _ _ (ar, cr), ← rents_snoc _ _ _ (ar, cr), ← fl_snoc gs, List.length_append, List.length_cons, List.length_nil, Nat.zero_add, List.append_assoc, List.cons_append, List.nil_append]
          exact hw.pick (by apply Pick.cons1; (· repeat (first | exact Rem.here | exact Rem.all | exact Rem.hereS | apply Rem.there | apply Rem.thereS)); apply Pick.cons1; (· repeat (first | exact Rem.here | exact Rem.all | exact Rem.hereS | apply Rem.there | apply Rem.thereS)); apply Pick.cons1; (· repeat (first | exact Rem.here | exact Rem.all | exact Rem.hereS | apply Rem.there | apply Rem.thereS)); apply Pick.cons1; (· repeat (first | exact Rem.here | exact Rem.all | exact Rem.hereS | apply Rem.there | apply Rem.thereS)); apply Pick.cons1; (· repeat (first | exact Rem.here | exact Rem.all | exact Rem.hereS | apply Rem.there | apply Rem.thereS)); apply Pick.cons1; (· repeat (first | exact Rem.here | exact Rem.all | exact Rem.hereS | apply Rem.there | apply Rem.thereS)); apply Pick.app1; (· repeat (first | exact Rem.here | exact Rem.all | exact Rem.hereS | apply Rem.there | apply Rem.thereS)); apply Pick.cons1; (· repeat (first | exact Rem.here | exact Rem.all | exact Rem.hereS | apply Rem.there | apply Rem.thereS)); apply Pick.last; repeat (first | exact Rem.here | exact Rem.all | exact Rem.hereS | apply Rem.there | apply Rem.thereS)))
      · dsimp only
        simp only [List.length_append, List.length_cons, List.length_nil, Nat.zero_add]
        exact ⟨by omega, mem_app hr9 (mem_one ⟨by omega, hx9⟩), ⟨by omega, by omega⟩, mem_app hW9 (mem_one ⟨x42, hx42, rfl⟩), mem_app hG9 (mem_one ⟨x52, hx52, rfl⟩), ⟨by omega, by omega⟩, hs52⟩
      · dsimp only; rw [List.length_append]; show (1 + x13) - (xss.length + 1) < (1 + x13) - xss.length; omega
  · skip
    replace h1 := ic_gtr' h1
    have hlM : xss.length = (1 + x13) := by omega
    refine V.exit ?_
    refine VE.then_exit ?_
    refine VE.then_exit ?_
    refine VE.block_here ?_
    refine VE.then_wp ?_
    refine V.seq ?_
    refine V.region ?_
    refine VL.q (.inl rfl) rfl (by decide) (yq_loadS rfl Tryd.underlying112 sz112_Dd rfl (by first | exact Sees.root (by assumption) | exact Sees.own (by repeat (first | exact List.mem_cons_self | exact List.mem_append_left _ (by assumption) | apply List.mem_cons_of_mem | apply List.mem_append_right)) | exact Sees.root (hR _ (by omega)) | exact Sees.own (RowsIn.mem (by repeat (first | exact RowsIn.here | exact RowsIn.last | apply RowsIn.there | apply RowsIn.thereS)) _ (by omega)) | exact Sees.own (WRowsIn.mem (by repeat (first | exact WRowsIn.here | exact WRowsIn.last | apply WRowsIn.there | apply WRowsIn.thereS)) _ (by omega))) rfl rfl rfl) ?_
    refine VL.s (.inl rfl) rfl (yc_store rfl sz112_Dd rfl rfl (by repeat (first | exact UpdF.here | apply UpdF.there | apply UpdF.thereS)) (.inr ⟨rfl, rfl⟩) rfl (by first | exact Nat.le_of_ble_eq_true rfl | simp) (by decide) rfl) ?_
    rintro ⟨⟩
    refine VL.nil ?_
    refine VE.then_wp ?_
    refine V.ret ?_
    refine retC rfl (rv_cellS rfl Tryd.underlying112 sz112_Dd (by first | exact Sees.root (by assumption) | exact Sees.own (by repeat (first | exact List.mem_cons_self | exact List.mem_append_left _ (by assumption) | apply List.mem_cons_of_mem | apply List.mem_append_right)) | exact Sees.root (hR _ (by omega)) | exact Sees.own (RowsIn.mem (by repeat (first | exact RowsIn.here | exact RowsIn.last | apply RowsIn.there | apply RowsIn.thereS)) _ (by omega)) | exact Sees.own (WRowsIn.mem (by repeat (first | exact WRowsIn.here | exact WRowsIn.last | apply WRowsIn.there | apply WRowsIn.thereS)) _ (by omega))) rfl rfl rfl) (by nofun) (fun w1 hw => ?_)
    refine ⟨⟨⟨(((ah, ch), f), (aw, cw), (ag, cg)), xss, ws, gs, (1 + x9), nn, sd⟩, ⟨by show 1 ≤ xss.length; omega, by show xss.length ≤ 10; omega, by show 1 ≤ (1 + x9); omega, by show (1 + x9) ≤ 3; omega, hr9, hw9, hg9, hW9, hG9⟩, ⟨by show n ≤ nn; omega, by show nn ≤ n + 60; omega⟩, hs9⟩, rfl, ?_⟩
    have h9 : Hp w0 (⟨some ⟨q, 0, none⟩, [.slice a bs.length c, .int .i64 ((nn : Nat) : Int), .int .u64 ((sd : Nat) : Int)], 3, 87⟩ :: ⟨ag, fl gs, cg * 1, 90⟩ :: ⟨aw, fl ws, cw * 1, 90⟩ :: ⟨ah, hd f xss, ch * 1, 39⟩ :: (rents 90 f xss ++ F)) w1 := hw.pick (by apply Pick.cons1; (· repeat (first | exact Rem.here | exact Rem.all | exact Rem.hereS | apply Rem.there | apply Rem.thereS)); apply Pick.cons1; (· repeat (first | exact Rem.here | exact Rem.all | exact Rem.hereS | apply Rem.there | apply Rem.thereS)); apply Pick.cons1; (· repeat (first | exact Rem.here | exact Rem.all | exact Rem.hereS | apply Rem.there | apply Rem.thereS)); apply Pick.cons1; (· repeat (first | exact Rem.here | exact Rem.all | exact Rem.hereS | apply Rem.there | apply Rem.thereS)); apply Pick.app1; (· repeat (first | exact Rem.here | exact Rem.all | exact Rem.hereS | apply Rem.there | apply Rem.thereS)); apply Pick.last; repeat (first | exact Rem.here | exact Rem.all | exact Rem.hereS | apply Rem.there | apply Rem.thereS))
    exact h9.perm' (show ((([⟨some ⟨q, 0, none⟩, [.slice a bs.length c, .int .i64 ((nn : Nat) : Int), .int .u64 ((sd : Nat) : Int)], 3, 87⟩, ⟨ag, fl gs, cg * 1, 90⟩, ⟨aw, fl ws, cw * 1, 90⟩, ⟨ah, hd f xss, ch * 1, 39⟩] : List Ent) ++ rents 90 f xss) ++ F).Perm (F ++ (([⟨some ⟨q, 0, none⟩, [.slice a bs.length c, .int .i64 ((nn : Nat) : Int), .int .u64 ((sd : Nat) : Int)], 3, 87⟩, ⟨ag, fl gs, cg * 1, 90⟩, ⟨aw, fl ws, cw * 1, 90⟩, ⟨ah, hd f xss, ch * 1, 39⟩] : List Ent) ++ rents 90 f xss)) from List.perm_append_comm)

theorem c_b10Long {w : World} {a b : Option Addr} {c d n m : Nat} : Pure Tryd.prog 18 [.slice a n c, .slice b m d] w (.bool (decide (1048576 < n) || decide (1048576 < m))) := by
  refine Pure.enter Tryd.func18 rfl Tryd.ntmps18 (Nat.le_of_ble_eq_true rfl) ?_
  refine V.seq ?_
  refine V.region ?_
  refine VL.r (.inl rfl) rfl (by decide) (yr_assign (u := .bool false) rfl rfl) ?_
  refine VL.nil ?_
  refine VE.then_wp ?_
  refine V.seq ?_
  refine V.region ?_
  refine VL.r (.inl rfl) rfl (by decide) (yr_move rfl rfl) ?_
  refine VL.r (.inl rfl) rfl (by decide) (yr_len rfl Tryd.underlying34 rfl) ?_
  refine VL.r (.inl rfl) rfl (by decide) (yr_icmp rfl (.inr (.inr (.inr (.inr (.inl rfl))))) rfl rfl) ?_
  refine VL.r (.inl rfl) rfl (by decide) (yr_move rfl rfl) ?_
  refine VX.split 8 _ rfl (fun h1 => ?_) (fun h1 => ?_)
  · skip
    replace h1 := ic_gtr h1
    refine VL.no rfl rfl rfl rfl rfl (by decide) ?_
    refine VL.no rfl rfl rfl rfl rfl (by decide) ?_
    refine VL.no rfl rfl rfl rfl rfl (by decide) ?_
    refine VL.r (.inl rfl) rfl (by decide) (yr_pick_t (u := .bool true) rfl rfl rfl) ?_
    refine VL.r (.inl rfl) rfl (by decide) (yr_assign rfl rfl) ?_
    refine VL.nil ?_
    refine VE.then_wp ?_
    refine V.ret ?_
    refine ret1 rfl rfl (fun w1 hw => ?_)
    first
      | exact ⟨congrArg Value.bool (by rw [decide_eq_true (show 1048576 < n by omega)]; rfl), hw.below⟩
      | exact ⟨congrArg Value.bool (by rw [decide_eq_false (show ¬ 1048576 < n by omega), Bool.false_or]; exact decide_eq_decide.2 (by omega)), hw.below⟩
  · skip
    replace h1 := ic_gtr' h1
    refine VL.r (.inr ⟨_, _, _, rfl, rfl, rfl⟩) rfl (by decide) (yr_move rfl rfl) ?_
    refine VL.r (.inr ⟨_, _, _, rfl, rfl, rfl⟩) rfl (by decide) (yr_len rfl Tryd.underlying34 rfl) ?_
    refine VL.r (.inr ⟨_, _, _, rfl, rfl, rfl⟩) rfl (by decide) (yr_icmp rfl (.inr (.inr (.inr (.inr (.inl rfl))))) rfl rfl) ?_
    refine VL.r (.inl rfl) rfl (by decide) (yr_pick_f rfl rfl rfl) ?_
    refine VL.r (.inl rfl) rfl (by decide) (yr_assign rfl rfl) ?_
    refine VL.nil ?_
    refine VE.then_wp ?_
    refine V.ret ?_
    refine ret1 rfl rfl (fun w1 hw => ?_)
    first
      | exact ⟨congrArg Value.bool (by rw [decide_eq_true (show 1048576 < n by omega)]; rfl), hw.below⟩
      | exact ⟨congrArg Value.bool (by rw [decide_eq_false (show ¬ 1048576 < n by omega), Bool.false_or]; exact decide_eq_decide.2 (by omega)), hw.below⟩

theorem c_b10At {w : World} {a : Option Addr} {c k m : Nat} {bs : List Int} (hA : Cl w a (bl bs)) (hb : Bytes bs) (hl : bs.length ≤ 2000000) (hm : 1 ≤ m) (hk : k ≤ 100000) : New Tryd.prog 21 [.slice a bs.length c, .int .i64 (k : Int), .int .i64 (m : Int)] w (fun x : {x : Nat // x < m} => .int .i64 ((x.1 : Nat) : Int)) (fun _ => []) := by
  refine New.enter Tryd.func21 rfl Tryd.ntmps21 (Nat.le_of_ble_eq_true rfl) ?_
  refine V.seq ?_
  refine V.region ?_
  refine VL.r (.inl rfl) rfl (by decide) (yr_assign (u := .int .i64 0) rfl rfl) ?_
  refine VL.nil ?_
  refine VE.then_wp ?_
  refine V.seq ?_
  refine V.seq ?_
  refine V.region ?_
  refine VL.r (.inl rfl) rfl (by decide) (yr_move rfl rfl) ?_
  refine VL.r (.inl rfl) rfl (by decide) (yr_icmp rfl (.inr (.inr (.inr (.inl rfl)))) rfl rfl) ?_
  refine VL.nil ?_
  refine VE.then_wp ?_
  refine V.cond rfl (fun h1 => ?_) (fun h1 => ?_)
  · skip
    replace h1 := ic_leq h1
    refine V.seq ?_
    refine V.region ?_
    refine VL.r (.inl rfl) rfl (by decide) (yr_assign (u := .int .i64 0) rfl rfl) ?_
    refine VL.nil ?_
    refine VE.then_wp ?_
    refine V.ret ?_
    refine VE.then_ret ?_
    refine ret1 rfl rfl (fun w1 hw => ?_)
    first
      | exact ⟨⟨0, by omega⟩, rfl, hw.below, (fun _ h => by cases h), List.Pairwise.nil⟩
      | exact ⟨⟨_ % m, Nat.mod_lt _ (by omega)⟩, rfl, hw.below, (fun _ h => by cases h), List.Pairwise.nil⟩
  · skip
    replace h1 := ic_leq' h1
    refine V.skip ?_
    refine VE.then_wp ?_
    refine V.seq ?_
    refine V.seq ?_
    refine V.region ?_
    refine VL.r (.inl rfl) rfl (by decide) (yr_move rfl rfl) ?_
    refine VL.r (.inl rfl) rfl (by decide) (yr_move rfl rfl) ?_
    refine VL.r (.inl rfl) rfl (by decide) (yr_len rfl Tryd.underlying34 rfl) ?_
    refine VL.r (.inl rfl) rfl (by decide) (yr_icmp rfl (.inr (.inr (.inl rfl))) rfl rfl) ?_
    refine VL.nil ?_
    refine VE.then_wp ?_
    refine V.cond rfl (fun h2 => ?_) (fun h2 => ?_)
    · skip
      replace h2 := ic_lss h2
      have hbn := byte_get hb (show k < bs.length by omega)
      refine V.seq ?_
      refine V.region ?_
      refine VL.r (.inl rfl) rfl (by decide) (yr_move rfl rfl) ?_
      refine VL.r (.inl rfl) rfl (by decide) (yr_move rfl rfl) ?_
      refine VL.q (.inl rfl) rfl (by decide) (yq_idx (k := k) rfl Tryd.underlying34 sz5_Dd rfl rfl (by first | exact Sees.root (by assumption) | exact Sees.own (by repeat (first | exact List.mem_cons_self | exact List.mem_append_left _ (by assumption) | apply List.mem_cons_of_mem | apply List.mem_append_right)) | exact Sees.root (hR _ (by omega)) | exact Sees.own (RowsIn.mem (by repeat (first | exact RowsIn.here | exact RowsIn.last | apply RowsIn.there | apply RowsIn.thereS)) _ (by omega)) | exact Sees.own (WRowsIn.mem (by repeat (first | exact WRowsIn.here | exact WRowsIn.last | apply WRowsIn.there | apply WRowsIn.thereS)) _ (by omega))) (by first | rfl | omega | (push_cast; rfl) | (push_cast; omega) | exact tmod_nat _ _) (by exact bl_length _) (by omega)) ?_
      refine VL.q (.inl rfl) rfl (by decide) (yq_load (u := .int .u8 (bs.getD k 0)) rfl fb5_Dd rfl (by first | exact Sees.root (by assumption) | exact Sees.own (by repeat (first | exact List.mem_cons_self | exact List.mem_append_left _ (by assumption) | apply List.mem_cons_of_mem | apply List.mem_append_right)) | exact Sees.root (hR _ (by omega)) | exact Sees.own (RowsIn.mem (by repeat (first | exact RowsIn.here | exact RowsIn.last | apply RowsIn.there | apply RowsIn.thereS)) _ (by omega)) | exact Sees.own (WRowsIn.mem (by repeat (first | exact WRowsIn.here | exact WRowsIn.last | apply WRowsIn.there | apply WRowsIn.thereS)) _ (by omega))) (bl_get (by omega))) ?_
      refine VL.r (.inl rfl) rfl (by decide) (yr_intConv (r := bs.getD k 0) rfl Tryd.underlying5 Tryd.underlying2 rfl (wrap_in (by omega))) ?_
      refine VL.r (.inl rfl) rfl (by decide) (yr_move rfl rfl) ?_
      refine VL.r (.inl rfl) rfl (by decide) (yr_remN (bs.getD k 0).toNat m rfl rfl rfl (by rw [Int.toNat_of_nonneg hbn.1]) rfl (by omega)) ?_
      refine VL.r (.inl rfl) rfl (by decide) (yr_assign rfl rfl) ?_
      refine VL.nil ?_
      refine VE.then_wp ?_
      refine V.ret ?_
      refine VE.then_ret ?_
      refine ret1 rfl rfl (fun w1 hw => ?_)
      first
        | exact ⟨⟨0, by omega⟩, rfl, hw.below, (fun _ h => by cases h), List.Pairwise.nil⟩
        | exact ⟨⟨_ % m, Nat.mod_lt _ (by omega)⟩, rfl, hw.below, (fun _ h => by cases h), List.Pairwise.nil⟩
    · skip
      replace h2 := ic_lss' h2
      refine V.skip ?_
      refine VE.then_wp ?_
      refine V.seq ?_
      refine V.region ?_
      refine VL.r (.inl rfl) rfl (by decide) (yr_move rfl rfl) ?_
      refine VL.r (.inl rfl) rfl (by decide) (yr_mulN k 37 rfl rfl rfl rfl rfl (by omega)) ?_
      refine VL.r (.inl rfl) rfl (by decide) (yr_addN (k * 37 + 11) rfl rfl rfl (by push_cast; rfl) (by omega)) ?_
      refine VL.r (.inl rfl) rfl (by decide) (yr_move rfl rfl) ?_
      refine VL.r (.inl rfl) rfl (by decide) (yr_remN (k * 37 + 11) m rfl rfl rfl rfl rfl (by omega)) ?_
      refine VL.r (.inl rfl) rfl (by decide) (yr_assign rfl rfl) ?_
      refine VL.nil ?_
      refine VE.then_wp ?_
      refine V.ret ?_
      refine ret1 rfl rfl (fun w1 hw => ?_)
      first
        | exact ⟨⟨0, by omega⟩, rfl, hw.below, (fun _ h => by cases h), List.Pairwise.nil⟩
        | exact ⟨⟨_ % m, Nat.mod_lt _ (by omega)⟩, rfl, hw.below, (fun _ h => by cases h), List.Pairwise.nil⟩

end Go.Proofs.YtmecikeaogjmpaaDoor


namespace Go.Proofs.YtmecikeaogjmpaaDoor
open Go.RowKit
set_option linter.unusedVariables false
set_option linter.unusedSimpArgs false
set_option maxRecDepth 20000




end Go.Proofs.YtmecikeaogjmpaaDoor


namespace Go.Proofs.YtmecikeaogjmpaaDoor
open Go.RowKit
set_option linter.unusedVariables false
set_option linter.unusedSimpArgs false
set_option maxRecDepth 20000

theorem sz91_Wire : (Tryd.prog.info? 91).map (·.size) = some 1 := by kernel_rfl
theorem fb91_Wire : flatB Tryd.prog 91 = true := by kernel_rfl
theorem sz90_Wire : (Tryd.prog.info? 90).map (·.size) = some 1 := by kernel_rfl
theorem fb90_Wire : flatB Tryd.prog 90 = true := by kernel_rfl
theorem known103_Wire : Known Tryd.prog 103 := Known.mk' Tryd.func103 (by kernel_rfl)
theorem sz101_Wire : (Tryd.prog.info? 101).map (·.size) = some 3 := by kernel_rfl
theorem known111_Wire : Known Tryd.prog 111 := Known.mk' Tryd.func111 (by kernel_rfl)
attribute [local irreducible] fop fcmp fconv sqrt32 fneg

theorem c_l02Is {w : World} {q : Option Addr} {o : Nat} {all : List Value} {a : Option Addr} {c : Nat} {ps : List V3} {cl : Bool} {cur : Nat} (hQ : Cl w q all) (g0 : all[o]? = some (.slice a ps.length c)) (g1 : all[o + 1]? = some (.bool cl)) (g2 : all[o + 2]? = some (.float .f32 cur)) (hA : Cl w a (vl ps)) (hn : ps.length ≤ 1050000) : Pure Tryd.prog 104 [.pointer (some (adr q o))] w (.bool (wireOk (ps, cl, cur))) := by
  refine Pure.enter Tryd.func104 rfl Tryd.ntmps104 (Nat.le_of_ble_eq_true rfl) ?_
  refine V.seq ?_
  refine V.region ?_
  refine VL.r (.inl rfl) rfl (by decide) (yr_assign (u := .bool false) rfl rfl) ?_
  refine VL.nil ?_
  refine VE.then_wp ?_
  refine V.seq ?_
  refine V.seq ?_
  refine V.region ?_
  refine VL.r (.inl rfl) rfl (by decide) (yr_move rfl rfl) ?_
  refine VL.r (.inl rfl) rfl (by decide) (yr_nilCheck rfl rfl) ?_
  refine VL.r (.inl rfl) rfl (by decide) (yr_fieldAddr rfl Tryd.underlying93 rfl rfl sz91_Wire (by decide) rfl) ?_
  refine VL.q (.inl rfl) rfl (by decide) (yq_load rfl fb91_Wire rfl (by first | exact Sees.root (by assumption) | exact Sees.own (by repeat (first | exact List.mem_cons_self | exact List.mem_append_left _ (by assumption) | apply List.mem_cons_of_mem | apply List.mem_append_right)) | exact Sees.root (hR _ (by omega)) | exact Sees.own (RowsIn.mem (by repeat (first | exact RowsIn.here | exact RowsIn.last | apply RowsIn.there | apply RowsIn.thereS)) _ (by omega)) | exact Sees.own (WRowsIn.mem (by repeat (first | exact WRowsIn.here | exact WRowsIn.last | apply WRowsIn.there | apply WRowsIn.thereS)) _ (by omega))) (by first | rfl | assumption)) ?_
  refine VL.r (.inl rfl) rfl (by decide) (yr_len rfl Tryd.underlying91 rfl) ?_
  refine VL.r (.inl rfl) rfl (by decide) (yr_icmp rfl (.inr (.inr (.inl rfl))) rfl rfl) ?_
  refine VL.r (.inl rfl) rfl (by decide) (yr_move rfl rfl) ?_
  refine VX.split 10 _ rfl (fun h1 => ?_) (fun h1 => ?_)
  · skip
    replace h1 := ic_lss h1
    refine VL.no rfl rfl rfl rfl rfl (by decide) ?_
    refine VL.no rfl rfl rfl rfl rfl (by decide) ?_
    refine VL.no rfl rfl rfl rfl rfl (by decide) ?_
    refine VL.no rfl rfl rfl rfl rfl (by decide) ?_
    refine VL.no rfl rfl rfl rfl rfl (by decide) ?_
    refine VL.no rfl rfl rfl rfl rfl (by decide) ?_
    refine VL.r (.inl rfl) rfl (by decide) (yr_pick_t (u := .bool true) rfl rfl rfl) ?_
    refine VL.r (.inl rfl) rfl (by decide) (yr_move rfl rfl) ?_
    refine VL.no rfl rfl rfl rfl rfl (by decide) ?_
    refine VL.no rfl rfl rfl rfl rfl (by decide) ?_
    refine VL.no rfl rfl rfl rfl rfl (by decide) ?_
    refine VL.no rfl rfl rfl rfl rfl (by decide) ?_
    refine VL.no rfl rfl rfl rfl rfl (by decide) ?_
    refine VL.no rfl rfl rfl rfl rfl (by decide) ?_
    refine VL.r (.inl rfl) rfl (by decide) (yr_pick_t (u := .bool true) rfl rfl rfl) ?_
    refine VL.nil ?_
    refine VE.then_wp ?_
    refine V.condT rfl ?_
    refine V.seq ?_
    refine V.region ?_
    refine VL.r (.inl rfl) rfl (by decide) (yr_assign (u := .bool false) rfl rfl) ?_
    refine VL.nil ?_
    refine VE.then_wp ?_
    refine V.ret ?_
    refine VE.then_ret ?_
    refine ret1 rfl rfl (fun w1 hw => ?_)
    first
      | exact ⟨congrArg Value.bool (wire_no1 (by omega)), hw.below⟩
      | exact ⟨congrArg Value.bool (wire_no3 (by assumption)), hw.below⟩
      | exact ⟨congrArg Value.bool (wire_no2 (vall_no (k := k) (by omega) (by assumption))), hw.below⟩
      | (obtain rfl : k = ps.length := by omega
         exact ⟨congrArg Value.bool (wire_yes' (by omega) (vall_getD.2 hI) (by assumption)), hw.below⟩)
  · skip
    replace h1 := ic_lss' h1
    refine VL.r (.inr ⟨_, _, _, rfl, rfl, rfl⟩) rfl (by decide) (yr_move rfl rfl) ?_
    refine VL.r (.inr ⟨_, _, _, rfl, rfl, rfl⟩) rfl (by decide) (yr_nilCheck rfl rfl) ?_
    refine VL.r (.inr ⟨_, _, _, rfl, rfl, rfl⟩) rfl (by decide) (yr_fieldAddr rfl Tryd.underlying93 rfl rfl sz91_Wire (by decide) rfl) ?_
    refine VL.q (.inr ⟨_, _, _, rfl, rfl, rfl⟩) rfl (by decide) (yq_load rfl fb91_Wire rfl (by first | exact Sees.root (by assumption) | exact Sees.own (by repeat (first | exact List.mem_cons_self | exact List.mem_append_left _ (by assumption) | apply List.mem_cons_of_mem | apply List.mem_append_right)) | exact Sees.root (hR _ (by omega)) | exact Sees.own (RowsIn.mem (by repeat (first | exact RowsIn.here | exact RowsIn.last | apply RowsIn.there | apply RowsIn.thereS)) _ (by omega)) | exact Sees.own (WRowsIn.mem (by repeat (first | exact WRowsIn.here | exact WRowsIn.last | apply WRowsIn.there | apply WRowsIn.thereS)) _ (by omega))) (by first | rfl | assumption)) ?_
    refine VL.r (.inr ⟨_, _, _, rfl, rfl, rfl⟩) rfl (by decide) (yr_len rfl Tryd.underlying91 rfl) ?_
    refine VL.r (.inr ⟨_, _, _, rfl, rfl, rfl⟩) rfl (by decide) (yr_icmp rfl (.inr (.inr (.inr (.inr (.inl rfl))))) rfl rfl) ?_
    refine VL.r (.inl rfl) rfl (by decide) (yr_pick_f rfl rfl rfl) ?_
    refine VL.r (.inl rfl) rfl (by decide) (yr_move rfl rfl) ?_
    refine VX.split 18 _ rfl (fun h3 => ?_) (fun h3 => ?_)
    · skip
      replace h3 := ic_gtr h3
      refine VL.no rfl rfl rfl rfl rfl (by decide) ?_
      refine VL.no rfl rfl rfl rfl rfl (by decide) ?_
      refine VL.no rfl rfl rfl rfl rfl (by decide) ?_
      refine VL.no rfl rfl rfl rfl rfl (by decide) ?_
      refine VL.no rfl rfl rfl rfl rfl (by decide) ?_
      refine VL.no rfl rfl rfl rfl rfl (by decide) ?_
      refine VL.r (.inl rfl) rfl (by decide) (yr_pick_t (u := .bool true) rfl rfl rfl) ?_
      refine VL.nil ?_
      refine VE.then_wp ?_
      refine V.condT rfl ?_
      refine V.seq ?_
      refine V.region ?_
      refine VL.r (.inl rfl) rfl (by decide) (yr_assign (u := .bool false) rfl rfl) ?_
      refine VL.nil ?_
      refine VE.then_wp ?_
      refine V.ret ?_
      refine VE.then_ret ?_
      refine ret1 rfl rfl (fun w1 hw => ?_)
      first
        | exact ⟨congrArg Value.bool (wire_no1 (by omega)), hw.below⟩
        | exact ⟨congrArg Value.bool (wire_no3 (by assumption)), hw.below⟩
        | exact ⟨congrArg Value.bool (wire_no2 (vall_no (k := k) (by omega) (by assumption))), hw.below⟩
        | (obtain rfl : k = ps.length := by omega
           exact ⟨congrArg Value.bool (wire_yes' (by omega) (vall_getD.2 hI) (by assumption)), hw.below⟩)
    · skip
      replace h3 := ic_gtr' h3
      refine VL.r (.inr ⟨_, _, _, rfl, rfl, rfl⟩) rfl (by decide) (yr_move rfl rfl) ?_
      refine VL.r (.inr ⟨_, _, _, rfl, rfl, rfl⟩) rfl (by decide) (yr_nilCheck rfl rfl) ?_
      refine VL.r (.inr ⟨_, _, _, rfl, rfl, rfl⟩) rfl (by decide) (yr_fieldAddr rfl Tryd.underlying93 rfl rfl sz90_Wire (by decide) rfl) ?_
      refine VL.q (.inr ⟨_, _, _, rfl, rfl, rfl⟩) rfl (by decide) (yq_load rfl fb90_Wire rfl (by first | exact Sees.root (by assumption) | exact Sees.own (by repeat (first | exact List.mem_cons_self | exact List.mem_append_left _ (by assumption) | apply List.mem_cons_of_mem | apply List.mem_append_right)) | exact Sees.root (hR _ (by omega)) | exact Sees.own (RowsIn.mem (by repeat (first | exact RowsIn.here | exact RowsIn.last | apply RowsIn.there | apply RowsIn.thereS)) _ (by omega)) | exact Sees.own (WRowsIn.mem (by repeat (first | exact WRowsIn.here | exact WRowsIn.last | apply WRowsIn.there | apply WRowsIn.thereS)) _ (by omega))) (by first | rfl | assumption)) ?_
      refine VL.q (.inr ⟨_, _, _, rfl, rfl, rfl⟩) rfl (by decide) (yq_callf rfl known103_Wire (.cons rfl .nil) (fun w hw => c_l01Finite _)) ?_
      refine VL.r (.inr ⟨_, _, _, rfl, rfl, rfl⟩) rfl (by decide) (yr_not rfl rfl) ?_
      refine VL.r (.inl rfl) rfl (by decide) (yr_pick_f rfl rfl rfl) ?_
      refine VL.nil ?_
      refine VE.then_wp ?_
      refine V.cond rfl (fun h5 => ?_) (fun h5 => ?_)
      · skip
        replace h5 := bnot_t h5
        refine V.seq ?_
        refine V.region ?_
        refine VL.r (.inl rfl) rfl (by decide) (yr_assign (u := .bool false) rfl rfl) ?_
        refine VL.nil ?_
        refine VE.then_wp ?_
        refine V.ret ?_
        refine VE.then_ret ?_
        refine ret1 rfl rfl (fun w1 hw => ?_)
        first
          | exact ⟨congrArg Value.bool (wire_no1 (by omega)), hw.below⟩
          | exact ⟨congrArg Value.bool (wire_no3 (by assumption)), hw.below⟩
          | exact ⟨congrArg Value.bool (wire_no2 (vall_no (k := k) (by omega) (by assumption))), hw.below⟩
          | (obtain rfl : k = ps.length := by omega
             exact ⟨congrArg Value.bool (wire_yes' (by omega) (vall_getD.2 hI) (by assumption)), hw.below⟩)
      · skip
        replace h5 := bnot_f h5
        refine V.skip ?_
        refine VE.then_wp ?_
        refine V.seq ?_
        refine V.seq ?_
        refine V.region ?_
        refine VL.r (.inl rfl) rfl (by decide) (yr_assign (u := .int .i64 0) rfl rfl) ?_
        refine VL.nil ?_
        refine VE.then_wp ?_
        refine V.block ?_
        refine V.loops (G := Nat) [(0, _)] (fun (k : Nat) => k ≤ ps.length ∧ ∀ j, j < k → fin3 (ps.getD j z3) = true) (fun (k : Nat) => [(3, .int .i64 (k : Int))]) (fun (k : Nat) => ps.length - k) 0 (.cons rfl .nil) (.cons rfl .nil) ?_ ?_
        · exact (by exact ⟨by omega, fun j h => by omega⟩)
        rintro k ⟨hk, hI⟩
        show V _ _ _ _ ([(3, .int .i64 (k : Int))] ++ [(0, _)]) _ _
        refine V.seq ?_
        refine V.seq ?_
        refine V.region ?_
        refine VL.r (.inl rfl) rfl (by decide) (yr_move rfl rfl) ?_
        refine VL.r (.inl rfl) rfl (by decide) (yr_move rfl rfl) ?_
        refine VL.r (.inl rfl) rfl (by decide) (yr_nilCheck rfl rfl) ?_
        refine VL.r (.inl rfl) rfl (by decide) (yr_fieldAddr rfl Tryd.underlying93 rfl rfl sz91_Wire (by decide) rfl) ?_
        refine VL.q (.inl rfl) rfl (by decide) (yq_load rfl fb91_Wire rfl (by first | exact Sees.root (by assumption) | exact Sees.own (by repeat (first | exact List.mem_cons_self | exact List.mem_append_left _ (by assumption) | apply List.mem_cons_of_mem | apply List.mem_append_right)) | exact Sees.root (hR _ (by omega)) | exact Sees.own (RowsIn.mem (by repeat (first | exact RowsIn.here | exact RowsIn.last | apply RowsIn.there | apply RowsIn.thereS)) _ (by omega)) | exact Sees.own (WRowsIn.mem (by repeat (first | exact WRowsIn.here | exact WRowsIn.last | apply WRowsIn.there | apply WRowsIn.thereS)) _ (by omega))) (by first | rfl | assumption)) ?_
        refine VL.r (.inl rfl) rfl (by decide) (yr_len rfl Tryd.underlying91 rfl) ?_
        refine VL.r (.inl rfl) rfl (by decide) (yr_icmp rfl (.inr (.inr (.inl rfl))) rfl rfl) ?_
        refine VL.nil ?_
        refine VE.then_wp ?_
        refine V.cond rfl (fun h6 => ?_) (fun h6 => ?_)
        · skip
          replace h6 := ic_lss h6
          refine V.skip ?_
          refine VE.then_wp ?_
          refine V.seq ?_
          refine V.block ?_
          refine V.seq ?_
          refine V.region ?_
          refine VL.r (.inl rfl) rfl (by decide) (yr_move rfl rfl) ?_
          refine VL.r (.inl rfl) rfl (by decide) (yr_nilCheck rfl rfl) ?_
          refine VL.r (.inl rfl) rfl (by decide) (yr_fieldAddr rfl Tryd.underlying93 rfl rfl sz91_Wire (by decide) rfl) ?_
          refine VL.q (.inl rfl) rfl (by decide) (yq_load rfl fb91_Wire rfl (by first | exact Sees.root (by assumption) | exact Sees.own (by repeat (first | exact List.mem_cons_self | exact List.mem_append_left _ (by assumption) | apply List.mem_cons_of_mem | apply List.mem_append_right)) | exact Sees.root (hR _ (by omega)) | exact Sees.own (RowsIn.mem (by repeat (first | exact RowsIn.here | exact RowsIn.last | apply RowsIn.there | apply RowsIn.thereS)) _ (by omega)) | exact Sees.own (WRowsIn.mem (by repeat (first | exact WRowsIn.here | exact WRowsIn.last | apply WRowsIn.there | apply WRowsIn.thereS)) _ (by omega))) (by first | rfl | assumption)) ?_
          refine VL.r (.inl rfl) rfl (by decide) (yr_move rfl rfl) ?_
          refine VL.q (.inl rfl) rfl (by decide) (yq_idxN (k := k) rfl Tryd.underlying91 sz101_Wire rfl rfl (by first | exact Sees.root (by assumption) | exact Sees.own (by repeat (first | exact List.mem_cons_self | exact List.mem_append_left _ (by assumption) | apply List.mem_cons_of_mem | apply List.mem_append_right)) | exact Sees.root (hR _ (by omega)) | exact Sees.own (RowsIn.mem (by repeat (first | exact RowsIn.here | exact RowsIn.last | apply RowsIn.there | apply RowsIn.thereS)) _ (by omega)) | exact Sees.own (WRowsIn.mem (by repeat (first | exact WRowsIn.here | exact WRowsIn.last | apply WRowsIn.there | apply WRowsIn.thereS)) _ (by omega))) (by first | rfl | omega | (push_cast; rfl) | (push_cast; omega) | exact tmod_nat _ _) (by exact vl_length _) (by decide) (by omega)) ?_
          refine VL.q (.inl rfl) rfl (by decide) (yq_loadV rfl Tryd.underlying101 sz101_Wire rfl (by first | exact Sees.root (by assumption) | exact Sees.own (by repeat (first | exact List.mem_cons_self | exact List.mem_append_left _ (by assumption) | apply List.mem_cons_of_mem | apply List.mem_append_right)) | exact Sees.root (hR _ (by omega)) | exact Sees.own (RowsIn.mem (by repeat (first | exact RowsIn.here | exact RowsIn.last | apply RowsIn.there | apply RowsIn.thereS)) _ (by omega)) | exact Sees.own (WRowsIn.mem (by repeat (first | exact WRowsIn.here | exact WRowsIn.last | apply WRowsIn.there | apply WRowsIn.thereS)) _ (by omega))) (by omega)) ?_
          refine VL.q (.inl rfl) rfl (by decide) (yq_callf rfl known111_Wire (.cons rfl .nil) (fun w hw => c_fin3S)) ?_
          refine VL.r (.inl rfl) rfl (by decide) (yr_not rfl rfl) ?_
          refine VL.nil ?_
          refine VE.then_wp ?_
          refine V.cond rfl (fun h7 => ?_) (fun h7 => ?_)
          · skip
            replace h7 := bnot_t h7
            refine V.seq ?_
            refine V.region ?_
            refine VL.r (.inl rfl) rfl (by decide) (yr_assign (u := .bool false) rfl rfl) ?_
            refine VL.nil ?_
            refine VE.then_wp ?_
            refine V.ret ?_
            refine VE.block_ret ?_
            refine VE.then_ret ?_
            refine VE.then_ret ?_
            refine VE.block_ret ?_
            refine VE.then_ret ?_
            refine ret1 rfl rfl (fun w1 hw => ?_)
            first
              | exact ⟨congrArg Value.bool (wire_no1 (by omega)), hw.below⟩
              | exact ⟨congrArg Value.bool (wire_no3 (by assumption)), hw.below⟩
              | exact ⟨congrArg Value.bool (wire_no2 (vall_no (k := k) (by omega) (by assumption))), hw.below⟩
              | (obtain rfl : k = ps.length := by omega
                 exact ⟨congrArg Value.bool (wire_yes' (by omega) (vall_getD.2 hI) (by assumption)), hw.below⟩)
          · skip
            replace h7 := bnot_f h7
            refine V.skip ?_
            refine VE.block_normal ?_
            refine VE.then_wp ?_
            refine V.region ?_
            refine VL.r (.inl rfl) rfl (by decide) (yr_move rfl rfl) ?_
            refine VL.r (.inl rfl) rfl (by decide) (yr_int rfl rfl rfl (.inl ⟨rfl, wrap_in (by omega)⟩)) ?_
            refine VL.r (.inl rfl) rfl (by decide) (yr_assign rfl rfl) ?_
            refine VL.nil ?_
            refine VE.round (k + 1) ?_ ?_ ?_ ?_ ?_
            · exact (.cons rfl .nil)
            · exact (.cons rfl .nil)
            · exact (fun w hw => hw)
            · exact ⟨by omega, fun j hj => by rcases Nat.lt_or_ge j k with h | h; exact hI j h; obtain rfl : j = k := (by omega); assumption⟩
            · (try dsimp only); omega
        · skip
          replace h6 := ic_lss' h6
          refine V.exit ?_
          refine VE.then_exit ?_
          refine VE.then_exit ?_
          refine VE.block_here ?_
          refine VE.then_wp ?_
          refine V.seq ?_
          refine V.region ?_
          refine VL.r (.inl rfl) rfl (by decide) (yr_assign (u := .bool true) rfl rfl) ?_
          refine VL.nil ?_
          refine VE.then_wp ?_
          refine V.ret ?_
          refine ret1 rfl rfl (fun w1 hw => ?_)
          first
            | exact ⟨congrArg Value.bool (wire_no1 (by omega)), hw.below⟩
            | exact ⟨congrArg Value.bool (wire_no3 (by assumption)), hw.below⟩
            | exact ⟨congrArg Value.bool (wire_no2 (vall_no (k := k) (by omega) (by assumption))), hw.below⟩
            | (obtain rfl : k = ps.length := by omega
               exact ⟨congrArg Value.bool (wire_yes' (by omega) (vall_getD.2 hI) (by assumption)), hw.below⟩)

end Go.Proofs.YtmecikeaogjmpaaDoor


namespace Go.Proofs.YtmecikeaogjmpaaDoor
open Go.RowKit
set_option linter.unusedVariables false
set_option linter.unusedSimpArgs false
set_option maxRecDepth 20000

attribute [local irreducible] fop fcmp fconv sqrt32 fneg


end Go.Proofs.YtmecikeaogjmpaaDoor


namespace Go.Proofs.YtmecikeaogjmpaaDoor
open Go.RowKit
set_option linter.unusedVariables false
set_option linter.unusedSimpArgs false
set_option maxRecDepth 20000

attribute [local irreducible] fop fcmp fconv sqrt32 fneg segF


end Go.Proofs.YtmecikeaogjmpaaDoor


namespace Go.Proofs.YtmecikeaogjmpaaDoor
open Go.RowKit
set_option linter.unusedVariables false
set_option linter.unusedSimpArgs false
set_option maxRecDepth 20000

theorem known103_MeshB : Known Tryd.prog 103 := Known.mk' Tryd.func103 (by kernel_rfl)
attribute [local irreducible] fop fcmp fconv sqrt32 fneg segF fieldS fieldI List.getD

theorem c_l02Size {w : World} (x : Nat) : Pure Tryd.prog 88 [.float .f32 x] w (.bool (above x)) := by
  refine Pure.enter Tryd.func88 rfl Tryd.ntmps88 (Nat.le_of_ble_eq_true rfl) ?_
  refine V.seq ?_
  refine V.region ?_
  refine VL.r (.inl rfl) rfl (by decide) (yr_assign (u := .bool false) rfl rfl) ?_
  refine VL.nil ?_
  refine VE.then_wp ?_
  refine V.seq ?_
  refine V.region ?_
  refine VL.r (.inl rfl) rfl (by decide) (yr_move rfl rfl) ?_
  refine VL.q (.inl rfl) rfl (by decide) (yq_callf rfl known103_MeshB (.cons rfl .nil) (fun w hw => c_l01Finite _)) ?_
  refine VL.r (.inl rfl) rfl (by decide) (yr_move rfl rfl) ?_
  refine VX.split 5 _ rfl (fun h1 => ?_) (fun h1 => ?_)
  · skip
    refine VL.r (.inr ⟨_, _, _, rfl, rfl, rfl⟩) rfl (by decide) (yr_move rfl rfl) ?_
    refine VL.r (.inr ⟨_, _, _, rfl, rfl, rfl⟩) rfl (by decide) (yr_fcmp (b := 0) rfl (.inr (.inr (.inr (.inr (.inl rfl))))) rfl rfl) ?_
    refine VL.r (.inl rfl) rfl (by decide) (yr_pick_t rfl rfl rfl) ?_
    refine VL.r (.inl rfl) rfl (by decide) (yr_assign rfl rfl) ?_
    refine VL.nil ?_
    refine VE.then_wp ?_
    refine V.ret ?_
    refine ret1 rfl rfl (fun w1 hw => ?_)
    exact ⟨by simp only [above, *, Bool.true_and], hw.below⟩
  · skip
    refine VL.no rfl rfl rfl rfl rfl (by decide) ?_
    refine VL.no rfl rfl rfl rfl rfl (by decide) ?_
    refine VL.r (.inl rfl) rfl (by decide) (yr_pick_f (u := .bool false) rfl rfl rfl) ?_
    refine VL.r (.inl rfl) rfl (by decide) (yr_assign rfl rfl) ?_
    refine VL.nil ?_
    refine VE.then_wp ?_
    refine V.ret ?_
    refine ret1 rfl rfl (fun w1 hw => ?_)
    exact ⟨by simp only [above, *, Bool.false_and], hw.below⟩

end Go.Proofs.YtmecikeaogjmpaaDoor

