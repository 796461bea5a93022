/- Own texts of this claim, merged: Draw, WCo, In, Root, Vec, Wire, Field, Flat, Mesh, Line, FinA, Fill, Jour, WBase, WIn. -/
import Derived.KernelRfl
import Derived.Lib.ItoaNum
import Derived.Lib.IndexMore
import Derived.Lib.LaidTab
import Derived.Lib.CleanWalkFns
import Derived.Lib.AppendIntMem
import Derived.Laws.Strings
import Derived.Test.YtmecikeaogjmpaaDoorProg
import Derived.Test.YtmecikeaogjmpaaDoorKFnExactRecoverJournal1
namespace Go.Proofs.YtmecikeaogjmpaaDoor
open Go.RowKit
namespace Dr

/-- What an operation makes whatever is there: by its place in the region. -/
abbrev Tab := List (Nat × ((Nat → Value) × (Nat → Ent)))
def Tab.get : Tab → Nat → (Nat → Value) × (Nat → Ent)
  | [], _ => (fun _ => undef, fun _ => ⟨none, [], 0, 0⟩)
  | (j, p) :: l, i => match Nat.beq j i with | true => p | false => Tab.get l i

section
variable {P : Program} {n : Nat} {w0 : World} {O R : List Ent} {T : Tab} {E : Env} {ops : Array Oper}

/-- Something new is made, whatever is there. -/
def YA (P : Program) (E : Env) (o : Oper) (u : Nat → Value) (e : Nat → Ent) : Prop :=
  ∀ ρ w, Ev E o.op ρ → ResOk P (fun v w' => ∃ b, cn v = u b ∧ Below w.heap.size w w' ∧ Ent.at w.heap.size w' (e b)) ((execOp ρ o).run P w)
theorem YA.of {o : Oper} {u : Nat → Value} {e : Nat → Ent} (h : ∀ w0, YN P w0 [] E o u (fun b => [e b])) : YA P E o u e := by
  intro ρ w hE
  refine (h w ρ w hE (Hp.refl w)).mono fun v w' ⟨b, h1, h2, h3, _⟩ => ⟨b, h1, h2, h3 _ List.mem_cons_self⟩
theorem YA.weaken {E' : Env} {o : Oper} {u : Nat → Value} {e : Nat → Ent} (h : YA P E o u e) (hE : ∀ x ∈ o.op.operands, E'.opd x = E.opd x) : YA P E' o u e :=
  fun ρ w hρ => h ρ w (fun x hx u hu => hρ x hx u (by rw [hE x hx]; exact hu))

/-- What an operation does: a value and what is owned then, for some x. -/
inductive Eff (P : Program) (w0 : World) (ops : Array Oper) (R : List Ent) : Kd → Oper → Env → List Ent → (X : Type) → (X → Value) → (X → List Ent) → Prop
  | skip {k : Kd} {o : Oper} {E : Env} {O : List Ent} : Guard ops E o false → Eff P w0 ops R k o E O Unit (fun _ => undef) (fun _ => O)
  | quiet {o : Oper} {E : Env} {O : List Ent} {u : Value} : Guard ops E o true → YQ P w0 (O ++ R) E o u → Eff P w0 ops R 0 o E O Unit (fun _ => u) (fun _ => O)
  | quietR {o : Oper} {E : Env} {O : List Ent} {u : Value} : Guard ops E o true → YQ P w0 R E o u → Eff P w0 ops R 5 o E O Unit (fun _ => u) (fun _ => O)
  | make {o : Oper} {E : Env} {O : List Ent} {X : Type} {u : X → Value} {N : X → List Ent} : Guard ops E o true → YN P w0 (O ++ R) E o u N → Eff P w0 ops R 1 o E O X u (fun x => N x ++ O)
  | turn {o : Oper} {E : Env} {O : List Ent} {X : Type} {u : X → Value} {O' : X → List Ent} : Guard ops E o true → YC P w0 (O ++ R) E o u (fun x => O' x ++ R) → Eff P w0 ops R 3 o E O X u O'

/-- One operation, and K behind it. -/
def Stp (P : Program) (n : Nat) (w0 : World) (ops : Array Oper) (T : Tab) (k : Kd) (i : Nat) (o : Oper) (E : Env) (O R : List Ent) (K : Env → List Ent → List Ent → Prop) : Prop :=
  if k = 2 then o.guard = none ∧ DOk n o ∧ YA P E o (T.get i).1 (T.get i).2 ∧ ∀ b, K (putE E o.dst ((T.get i).1 b)) ((T.get i).2 b :: O) R
  else if k = 4 then ∃ (X : Type) (u : X → Value) (O' : X → List Ent), Nonempty X ∧ Guard ops E o true ∧ YC P w0 (O ++ R) E o u O' ∧ DOk n o ∧ ∀ x, K (putE E o.dst (u x)) (O' x) []
  else ∃ (X : Type) (u : X → Value) (O' : X → List Ent), Nonempty X ∧ Eff P w0 ops R k o E O X u O' ∧ DOk n o ∧ ∀ x, K (putE E o.dst (u x)) (O' x) R

/-- The walk: the operations of π in this order. -/
def SW (P : Program) (n : Nat) (w0 : World) (ops : Array Oper) (T : Tab) (K : Env → List Ent → List Ent → Prop) : List (Nat × Kd) → Env → List Ent → List Ent → Prop
  | [], E, O, R => K E O R
  | (i, k) :: π, E, O, R => ∃ o, ops[i]? = some o ∧ Stp P n w0 ops T k i o E O R (SW P n w0 ops T K π)

/-- K does not look at the order of what is known. -/
def Lax3 (w0 : World) (K : Env → List Ent → List Ent → Prop) : Prop :=
  ∀ E E' O O' R, (∀ t, E'.get t = E.get t) → (∀ F w, Hp w0 (F ++ O') w → Hp w0 (F ++ O) w) → K E O R → K E' O' R

theorem frame {O' : List Ent} (h : ∀ F w, Hp w0 (F ++ O') w → Hp w0 (F ++ O) w) : ∀ F w, Hp w0 (F ++ (O' ++ R)) w → Hp w0 (F ++ (O ++ R)) w := by
  intro F w hw
  have h1 : (F ++ (O' ++ R)).Perm ((F ++ R) ++ O') := by
    rw [List.append_assoc]
    exact List.Perm.append_left F List.perm_append_comm
  have h2 : ((F ++ R) ++ O).Perm (F ++ (O ++ R)) := by
    rw [List.append_assoc]
    exact List.Perm.append_left F List.perm_append_comm
  exact (h (F ++ R) w (hw.perm' h1)).perm' h2

/-- The effect, seen from what says the same. -/
theorem Eff.lax {E' : Env} {O' : List Ent} {k : Kd} {o : Oper} {X : Type} {u : X → Value} {S : X → List Ent} (hE : ∀ t, E'.get t = E.get t) (hO : ∀ F w, Hp w0 (F ++ O') w → Hp w0 (F ++ O) w) (h : Eff P w0 ops R k o E O X u S) :
    ∃ S', Eff P w0 ops R k o E' O' X u S' ∧ ∀ x F w, Hp w0 (F ++ S' x) w → Hp w0 (F ++ S x) w := by
  have hop := opd_same hE
  cases h with
  | skip hg => exact ⟨_, .skip (hg.same fun t _ => hE t), fun _ => hO⟩
  | quiet hg h => exact ⟨_, .quiet (hg.same fun t _ => hE t) (h.weaken (fun x _ => hop x) (hp_nil (frame hO))), fun _ => hO⟩
  | quietR hg h => exact ⟨_, .quietR (hg.same fun t _ => hE t) (h.weaken (fun x _ => hop x) (fun _ h => h)), fun _ => hO⟩
  | make hg h => exact ⟨_, .make (hg.same fun t _ => hE t) (h.weaken (fun x _ => hop x) (hp_nil (frame hO))), fun x => Hp.perm hO⟩
  | turn hg h => exact ⟨_, .turn (hg.same fun t _ => hE t) (fun ρ w F hρ hw => h ρ w F (fun x hx u hu => hρ x hx u (by rw [hop x]; exact hu)) (frame hO F w hw)), fun _ _ _ h => h⟩

theorem Stp.lax {k : Kd} {i : Nat} {o : Oper} {K : Env → List Ent → List Ent → Prop} (hK : Lax3 w0 K) : Lax3 w0 (fun E O R => Stp P n w0 ops T k i o E O R K) := by
  intro E E' O O' R hE hO h
  simp only [Stp] at h ⊢
  split at h
  · rename_i hk
    rw [if_pos hk]
    exact ⟨h.1, h.2.1, h.2.2.1.weaken (fun x _ => opd_same hE x), fun b => hK _ _ _ _ _ (put_congr hE _ _) (fun F w => by simpa using Hp.perm (N := [(T.get i).2 b]) hO F w) (h.2.2.2 b)⟩
  · rename_i hk
    rw [if_neg hk]
    split at h
    · rename_i hk4
      rw [if_pos hk4]
      obtain ⟨X, u, S, h0, hg, h1, h2, h3⟩ := h
      exact ⟨X, u, S, h0, hg.same fun t _ => hE t, fun ρ w F hρ hw => h1 ρ w F (fun x hx u hu => hρ x hx u (by rw [opd_same hE x]; exact hu)) (frame hO F w hw), h2, fun x => hK _ _ _ _ _ (put_congr hE _ _) (fun _ _ h => h) (h3 x)⟩
    · rename_i hk4
      rw [if_neg hk4]
      obtain ⟨X, u, S, h0, h1, h2, h3⟩ := h
      obtain ⟨S', h4, h5⟩ := h1.lax hE hO
      exact ⟨X, u, S', h0, h4, h2, fun x => hK _ _ _ _ _ (put_congr hE _ _) (h5 x) (h3 x)⟩

theorem SW.lax {K : Env → List Ent → List Ent → Prop} (hK : Lax3 w0 K) : ∀ π, Lax3 w0 (SW P n w0 ops T K π)
  | [] => hK
  | (i, k) :: π => by
    intro E E' O O' R hE hO ⟨o, ho, h⟩
    exact ⟨o, ho, Stp.lax (SW.lax hK π) _ _ _ _ _ hE hO h⟩

/-- p is walked before q; may q be carried out before p? -/
def swapOk (ops : Array Oper) (kp kq : Kd) (p q : Oper) : Bool :=
  (match p.dst with | some d => !(q.looksAt ops).contains d && q.dst != some d | none => true) &&
  (match q.dst with | some d => !(p.looksAt ops).contains d | none => true) &&
  ((kp == 0 && (kq == 0 || kq == 1 || kq == 5)) || (kp == 5 && (kq == 0 || kq == 1 || kq == 3 || kq == 5)) || (kq == 2 && kp != 4))

theorem Eff.put {k : Kd} {o : Oper} {d : Option Nat} {u : Value} {X : Type} {v : X → Value} {S : X → List Ent} (h : ∀ x, d = some x → (o.looksAt ops).contains x = false) :
    Eff P w0 ops R k o (putE E d u) O X v S ↔ Eff P w0 ops R k o E O X v S := by
  constructor
  · intro he
    cases he with
    | skip hg => exact .skip ((guard_put h).1 hg)
    | quiet hg hy => exact .quiet ((guard_put h).1 hg) (hy.weaken (fun x hx => (opd_put h u x hx).symm) fun _ h => h)
    | quietR hg hy => exact .quietR ((guard_put h).1 hg) (hy.weaken (fun x hx => (opd_put h u x hx).symm) fun _ h => h)
    | make hg hy => exact .make ((guard_put h).1 hg) (hy.weaken (fun x hx => (opd_put h u x hx).symm) fun _ h => h)
    | turn hg hy => exact .turn ((guard_put h).1 hg) (fun ρ w F hρ hw => hy ρ w F (fun x hx v hv => hρ x hx v (by rw [← opd_put h u x hx]; exact hv)) hw)
  · intro he
    cases he with
    | skip hg => exact .skip ((guard_put h).2 hg)
    | quiet hg hy => exact .quiet ((guard_put h).2 hg) (hy.weaken (fun x hx => opd_put h u x hx) fun _ h => h)
    | quietR hg hy => exact .quietR ((guard_put h).2 hg) (hy.weaken (fun x hx => opd_put h u x hx) fun _ h => h)
    | make hg hy => exact .make ((guard_put h).2 hg) (hy.weaken (fun x hx => opd_put h u x hx) fun _ h => h)
    | turn hg hy => exact .turn ((guard_put h).2 hg) (fun ρ w F hρ hw => hy ρ w F (fun x hx v hv => hρ x hx v (by rw [opd_put h u x hx]; exact hv)) hw)

/-- .. with one entry more -/
theorem Eff.beside {k : Kd} {o : Oper} {e : Ent} {X : Type} {v : X → Value} {S : X → List Ent} (he : Eff P w0 ops R k o E O X v S) :
    ∃ S', Eff P w0 ops R k o E (e :: O) X v S' ∧ ∀ x F w, Hp w0 (F ++ S' x) w → Hp w0 (F ++ (e :: S x)) w := by
  have hsub : ∀ w, Hp w0 (e :: O ++ R) w → Hp w0 (O ++ R) w := fun w h => h.sub (List.sublist_cons_self e (O ++ R))
  cases he with
  | skip hg => exact ⟨_, .skip hg, fun _ _ _ h => h⟩
  | quiet hg hy => exact ⟨_, .quiet hg (hy.weaken (fun _ _ => rfl) hsub), fun _ _ _ h => h⟩
  | quietR hg hy => exact ⟨_, .quietR hg hy, fun _ _ _ h => h⟩
  | make hg hy =>
    exact ⟨_, .make hg (hy.weaken (fun _ _ => rfl) hsub), fun x F w h => swap_hp (N := _) (M := [e]) F w h⟩
  | turn hg hy =>
    refine ⟨fun x => e :: S x, .turn hg fun ρ w F hρ hw => ?_, fun _ _ _ h => h⟩
    have := hy ρ w (F ++ [e]) hρ (by simpa using hw)
    refine this.mono fun v w' ⟨x, h1, h2⟩ => ⟨x, h1, by simpa using h2⟩

theorem Stp.swap {kp kq : Kd} {ip iq : Nat} {p q : Oper} {K : Env → List Ent → List Ent → Prop} (hK : Lax3 w0 K) (hs : swapOk ops kp kq p q = true)
    (h : Stp P n w0 ops T kp ip p E O R (fun E O R => Stp P n w0 ops T kq iq q E O R K)) : Stp P n w0 ops T kq iq q E O R (fun E O R => Stp P n w0 ops T kp ip p E O R K) := by
  simp only [swapOk, Bool.and_eq_true, Bool.or_eq_true, beq_iff_eq, bne_iff_ne, ne_eq] at hs
  obtain ⟨⟨hs1, hs2⟩, hs3⟩ := hs
  have d1 : ∀ d, p.dst = some d → (q.looksAt ops).contains d = false := fun d hd => by rw [hd] at hs1; simpa using (Bool.and_eq_true_iff.1 hs1).1
  have d2 : ∀ d, p.dst = some d → q.dst ≠ some d := fun d hd => by rw [hd] at hs1; simpa using (Bool.and_eq_true_iff.1 hs1).2
  have d3 : ∀ d, q.dst = some d → (p.looksAt ops).contains d = false := fun d hd => by rw [hd] at hs2; simpa using hs2
  have hid : ∀ (O : List Ent) (F : List Ent) (w : World), Hp w0 (F ++ O) w → Hp w0 (F ++ O) w := fun _ _ _ h => h
  have hp4 : ¬ kp = 4 := by
    rcases hs3 with (⟨h1, _⟩ | ⟨h1, _⟩) | ⟨_, h2⟩
    · rw [h1]; decide
    · rw [h1]; decide
    · exact h2
  by_cases hq : kq = 2
  · subst hq
    simp only [Stp, if_true, if_neg hp4] at h ⊢
    split at h
    · rename_i hp
      have h0 := (h.2.2.2 0)
      refine ⟨h0.1, h0.2.1, h0.2.2.1.weaken (fun x hx => (opd_put d1 _ x hx).symm), fun b => ?_⟩
      rw [if_pos hp]
      refine ⟨h.1, h.2.1, h.2.2.1.weaken (fun x hx => opd_put d3 _ x hx), fun c => ?_⟩
      have h3 := (h.2.2.2 c).2.2.2 b
      refine hK _ _ _ _ _ (fun t => (put_swap d2 _ _ E t).symm) (fun F w hw => ?_) h3
      have := swap_hp (N := [(T.get ip).2 c]) (M := [(T.get iq).2 b]) (O := O) F w (by simpa using hw)
      simpa using this
    · rename_i hp
      obtain ⟨X, u, S, ⟨x0⟩, h1, h2, h3⟩ := h
      have h0 := h3 x0
      refine ⟨h0.1, h0.2.1, h0.2.2.1.weaken (fun x hx => (opd_put d1 _ x hx).symm), fun b => ?_⟩
      rw [if_neg hp]
      obtain ⟨S', h4, h5⟩ := h1.beside (e := (T.get iq).2 b)
      refine ⟨X, u, S', ⟨x0⟩, (Eff.put d3).2 h4, h2, fun x => ?_⟩
      exact hK _ _ _ _ _ (fun t => (put_swap d2 _ _ E t).symm) (h5 x) ((h3 x).2.2.2 b)
  · have h0 : (kp = 0 ∧ (kq = 0 ∨ kq = 1 ∨ kq = 5)) ∨ (kp = 5 ∧ (kq = 0 ∨ kq = 1 ∨ kq = 3 ∨ kq = 5)) := by
      rcases hs3 with (⟨h1, (h2 | h2) | h2⟩ | ⟨h1, ((h2 | h2) | h2) | h2⟩) | h2
      · exact .inl ⟨h1, .inl h2⟩
      · exact .inl ⟨h1, .inr (.inl h2)⟩
      · exact .inl ⟨h1, .inr (.inr h2)⟩
      · exact .inr ⟨h1, .inl h2⟩
      · exact .inr ⟨h1, .inr (.inl h2)⟩
      · exact .inr ⟨h1, .inr (.inr (.inl h2))⟩
      · exact .inr ⟨h1, .inr (.inr (.inr h2))⟩
      · exact absurd h2.1 hq
    have hp2 : ¬ kp = 2 := by rcases h0 with ⟨h, _⟩ | ⟨h, _⟩ <;> rw [h] <;> decide
    have hq4 : ¬ kq = 4 := by rcases h0 with ⟨_, h | h | h⟩ | ⟨_, h | h | h | h⟩ <;> rw [h] <;> decide
    simp only [Stp, if_neg hq, if_neg hp2, if_neg hp4, if_neg hq4] at h ⊢
    obtain ⟨X, u, S0, hX, h1, h2, h3⟩ := h
    -- the first is quiet, or does not come to its turn
    obtain ⟨u0, hu0, hp⟩ : ∃ u0, (∃ Y v S, Nonempty Y ∧ Eff P w0 ops R kq q (putE E p.dst u0) O Y v S ∧ DOk n q ∧ ∀ y, K (putE (putE E p.dst u0) q.dst (v y)) (S y) R) ∧
        ∀ E' O', (∀ x ∈ p.op.operands, E'.opd x = E.opd x) → (∀ g, Guard ops E p g → Guard ops E' p g) → (kp = 0 → ∀ w, Hp w0 (O' ++ R) w → Hp w0 (O ++ R) w) → Eff P w0 ops R kp p E' O' Unit (fun _ => u0) (fun _ => O') := by
      rcases h0 with ⟨rfl, _⟩ | ⟨rfl, _⟩
      · cases h1 with
        | skip hg => exact ⟨undef, h3 (), fun E' O' _ hg' _ => .skip (hg' _ hg)⟩
        | quiet hg hy => exact ⟨_, h3 (), fun E' O' hE hg' hO => .quiet (hg' _ hg) (hy.weaken hE (hO rfl))⟩
      · cases h1 with
        | skip hg => exact ⟨undef, h3 (), fun E' O' _ hg' _ => .skip (hg' _ hg)⟩
        | quietR hg hy => exact ⟨_, h3 (), fun E' O' hE hg' _ => .quietR (hg' _ hg) (hy.weaken hE fun _ h => h)⟩
    obtain ⟨Y, v, S, g0, g1, g2, g3⟩ := hu0
    have g1' := (Eff.put d1).1 g1
    refine ⟨Y, v, S, g0, g1', g2, fun y => ?_⟩
    have hsub : kp = 0 → ∀ w, Hp w0 (S y ++ R) w → Hp w0 (O ++ R) w := fun hk0 => by
      have hk : kq = 0 ∨ kq = 1 ∨ kq = 5 := by
        rcases h0 with ⟨_, h⟩ | ⟨h, _⟩
        · exact h
        · rw [hk0] at h; exact absurd h (by decide)
      cases g1' with
      | skip _ => exact fun _ h => h
      | quiet _ _ => exact fun _ h => h
      | quietR _ _ => exact fun _ h => h
      | make _ _ => exact fun w h => h.sub (by rw [List.append_assoc]; exact List.sublist_append_right _ _)
      | turn _ _ => rcases hk with h | h | h <;> exact absurd h (by decide)
    exact ⟨Unit, fun _ => u0, fun _ => S y, ⟨()⟩, hp _ _ (opd_put d3 _) (fun g hg => (guard_put d3).2 hg) hsub, h2, fun _ => hK _ _ _ _ _ (fun t => (put_swap d2 _ _ E t).symm) (hid _) (g3 y)⟩

/-! ### the order that is drawn -/
/-- Of any two that are walked in this order the second waits for the first, directly, or they may change places. -/
def pairsOk (ops : Array Oper) : List (Nat × Kd) → Bool
  | [] => true
  | (i, k) :: π => (π.all fun (j, kj) => match ops[i]?, ops[j]? with
    | some p, some q => Go.Proofs.YtmecikeaogjmpaaDoor.pairsOk.reach ops j i || swapOk ops k kj p q
    | _, _ => false) && pairsOk ops π

theorem pairsOk_mid {i : Nat} {k : Kd} : ∀ (A B : List (Nat × Kd)), pairsOk ops (A ++ (i, k) :: B) = true →
    (∀ j kj, (j, kj) ∈ A → ∃ p q, ops[j]? = some p ∧ ops[i]? = some q ∧ (Go.Proofs.YtmecikeaogjmpaaDoor.pairsOk.reach ops i j = true ∨ swapOk ops kj k p q = true)) ∧ pairsOk ops (A ++ B) = true
  | [], B, h => by
    simp only [List.nil_append, pairsOk, Bool.and_eq_true] at h
    exact ⟨fun _ _ h => by (cases h), h.2⟩
  | (j, kj) :: A, B, h => by
    simp only [List.cons_append, pairsOk, Bool.and_eq_true, List.all_eq_true] at h ⊢
    obtain ⟨h1, h2⟩ := h
    obtain ⟨g1, g2⟩ := pairsOk_mid A B h2
    refine ⟨fun j' kj' hj => ?_, fun x hx => h1 x ?_, g2⟩
    · rcases List.mem_cons.1 hj with hj | hj
      · cases hj
        have := h1 (i, k) (by simp)
        dsimp only at this
        cases hp : ops[j]? with
        | none => rw [hp] at this; simp at this
        | some p =>
          cases hq : ops[i]? with
          | none => rw [hp, hq] at this; simp at this
          | some q =>
            rw [hp, hq] at this
            exact ⟨p, q, rfl, rfl, by simpa using this⟩
      · exact g1 j' kj' hj
    · rcases List.mem_append.1 hx with hx | hx
      · exact List.mem_append.2 (.inl hx)
      · exact List.mem_append.2 (.inr (List.mem_cons_of_mem _ hx))


theorem SW.front {K : Env → List Ent → List Ent → Prop} (hK : Lax3 w0 K) {i : Nat} {k : Kd} {q : Oper} (hq : ops[i]? = some q) : ∀ (A B : List (Nat × Kd)) (E : Env) (O R : List Ent),
    (∀ j kj, (j, kj) ∈ A → ∃ p, ops[j]? = some p ∧ swapOk ops kj k p q = true) → SW P n w0 ops T K (A ++ (i, k) :: B) E O R → SW P n w0 ops T K ((i, k) :: (A ++ B)) E O R
  | [], _, _, _, _, _, h => h
  | (j, kj) :: A, B, E, O, R, hs, h => by
    obtain ⟨p, hp, h⟩ := h
    obtain ⟨p', hp', hsw⟩ := hs j kj List.mem_cons_self
    obtain rfl : p = p' := Option.some.inj (hp.symm.trans hp')
    have h2 : Stp P n w0 ops T kj j p E O R (fun E O R => Stp P n w0 ops T k i q E O R (SW P n w0 ops T K (A ++ B))) := by
      have ih := fun E O R => SW.front hK hq A B E O R (fun j kj hj => hs j kj (List.mem_cons_of_mem _ hj))
      have key : ∀ E O R, SW P n w0 ops T K (A ++ (i, k) :: B) E O R → Stp P n w0 ops T k i q E O R (SW P n w0 ops T K (A ++ B)) := fun E O R h => by
        obtain ⟨q', hq', h'⟩ := ih E O R h
        obtain rfl : q = q' := Option.some.inj (hq.symm.trans hq')
        exact h'
      simp only [Stp] at h ⊢
      split at h
      · rename_i hk; rw [if_pos hk]; exact ⟨h.1, h.2.1, h.2.2.1, fun b => key _ _ _ (h.2.2.2 b)⟩
      · rename_i hk; rw [if_neg hk]
        split at h
        · rename_i hk4; rw [if_pos hk4]
          obtain ⟨X, u, R, h0, h1, h2, h3, h4⟩ := h
          exact ⟨X, u, R, h0, h1, h2, h3, fun x => key _ _ _ (h4 x)⟩
        · rename_i hk4; rw [if_neg hk4]
          obtain ⟨X, u, R, h0, h1, h2, h3⟩ := h
          exact ⟨X, u, R, h0, h1, h2, fun x => key _ _ _ (h3 x)⟩
    have h3 := Stp.swap (SW.lax hK (A ++ B)) hsw h2
    refine ⟨q, hq, ?_⟩
    simp only [Stp] at h3 ⊢
    split at h3
    · rename_i hk; rw [if_pos hk]; exact ⟨h3.1, h3.2.1, h3.2.2.1, fun b => ⟨p, hp, h3.2.2.2 b⟩⟩
    · rename_i hk; rw [if_neg hk]
      split at h3
      · rename_i hk4; rw [if_pos hk4]
        obtain ⟨X, u, R, h0, h1, h2, h3, h4⟩ := h3
        exact ⟨X, u, R, h0, h1, h2, h3, fun x => ⟨p, hp, h4 x⟩⟩
      · rename_i hk4; rw [if_neg hk4]
        obtain ⟨X, u, R, h0, h1, h2, h4⟩ := h3
        exact ⟨X, u, R, h0, h1, h2, fun x => ⟨p, hp, h4 x⟩⟩

theorem Stp.wpOp {k : Kd} {o : Oper} {i : Nat} {Q : Exit → Act → World → Prop} {K : Env → List Ent → List Ent → Prop} {S : Act → World → Prop} (ho : ops[i]? = some o) (h : Stp P n w0 ops T k i o E O R K) (hR : ∀ E' O' R', K E' O' R' → VX n w0 (O' ++ R') E' S) {a : Act} {w : World} (ha : Models n E a) (hw : Hp w0 (O ++ R) w) : Go.wpOp P ops Q i S a w := by
  unfold Go.wpOp
  simp only [ho]
  simp only [Stp] at h
  split at h
  · obtain ⟨hg, hd, hA, h⟩ := h
    rw [if_pos (by simp [Region.wanted, hg])]
    refine .inl ?_
    unfold Oper.wp
    refine (hA a.eval w (ha.ev _)).upon fun v w' ⟨b, h1, h2, h3⟩ => ?_
    exact hR _ _ _ (h b) _ _ (models_put ha hd h1) (hw.new h2 h3)
  split at h
  · obtain ⟨X, u, R', _, hg, hy, hd, h3⟩ := h
    rw [if_pos (hg.wanted ha)]
    refine .inl ?_
    unfold Oper.wp
    refine (hy a.eval w [] (ha.ev _) (by simpa using hw)).upon fun v w' ⟨x, h1, h2⟩ => ?_
    exact hR _ _ _ (h3 x) _ _ (models_put ha hd h1) (by simpa using h2)
  · obtain ⟨X, u, R', _, h1, hd, h3⟩ := h
    cases h1 with
    | skip hg =>
      rw [if_neg (by rw [hg.wanted ha]; decide)]
      exact hR _ _ _ (h3 ()) _ _ (models_put ha hd (by simp [undef, cn])) hw
    | quiet hg hy =>
      rw [if_pos (hg.wanted ha)]
      refine .inl ?_
      unfold Oper.wp
      refine (hy a.eval w (ha.ev _) hw).upon fun v w' ⟨h1, h2⟩ => ?_
      exact hR _ _ _ (h3 ()) _ _ (models_put ha hd h1) (hw.ext h2)
    | quietR hg hy =>
      rw [if_pos (hg.wanted ha)]
      refine .inl ?_
      unfold Oper.wp
      refine (hy a.eval w (ha.ev _) (hw.sub (List.sublist_append_right _ _))).upon fun v w' ⟨h1, h2⟩ => ?_
      exact hR _ _ _ (h3 ()) _ _ (models_put ha hd h1) (hw.ext h2)
    | make hg hy =>
      rw [if_pos (hg.wanted ha)]
      refine .inl ?_
      unfold Oper.wp
      refine (hy a.eval w (ha.ev _) hw).upon fun v w' ⟨x, h1, h2, h4, h5⟩ => ?_
      exact hR _ _ _ (h3 x) _ _ (models_put ha hd h1) (by rw [List.append_assoc]; exact hw.news h2 h4 h5)
    | turn hg hy =>
      rw [if_pos (hg.wanted ha)]
      refine .inl ?_
      unfold Oper.wp
      refine (hy a.eval w [] (ha.ev _) (by simpa using hw)).upon fun v w' ⟨x, h1, h2⟩ => ?_
      exact hR _ _ _ (h3 x) _ _ (models_put ha hd h1) (by simpa using h2)

theorem any_of_walk {Q : Exit → Act → World → Prop} {K : Env → List Ent → List Ent → Prop} (hK : Lax3 w0 K) (hQ : ∀ E O R, K E O R → VX n w0 (O ++ R) E (Q .normal)) (hback : backOk ops = true) :
    ∀ (fuel : Nat) (π : List (Nat × Kd)) (listed : Array Bool) (E : Env) (O R : List Ent) (a : Act) (w : World), π.length ≤ fuel → listed.size = ops.size → (∀ j, j < ops.size → (listed.getD j true = false ↔ ∃ k, (j, k) ∈ π)) → (π.map (·.1)).Nodup →
      (∀ j o, ops[j]? = some o → listed.getD j false = true → ∀ e ∈ o.after, Region.binds .any e = true → listed.getD e.on false = true) → pairsOk ops π = true → SW P n w0 ops T K π E O R → Models n E a → Hp w0 (O ++ R) w → wpAny P .any ops Q fuel listed a w := by
  have hnone : ∀ (π : List (Nat × Kd)) (listed : Array Bool) (E : Env) (O R : List Ent) (a : Act) (w : World), listed.size = ops.size → (∀ j, j < ops.size → (listed.getD j true = false ↔ ∃ k, (j, k) ∈ π)) → Region.ready .any ops listed = [] → SW P n w0 ops T K π E O R → (∀ j k, (j, k) ∈ π → j < ops.size) → Models n E a → Hp w0 (O ++ R) w → Q .normal a w := by
    intro π listed E O R a w hsz hl hr hS hlt ha hw
    have hnil : π = [] := by
      apply Classical.byContradiction
      intro hne
      -- the least index that is not listed could come up
      have hex : ∃ j, j < ops.size ∧ listed.getD j true = false := by
        cases π with
        | nil => exact absurd rfl hne
        | cons x π => obtain ⟨j, k⟩ := x; exact ⟨j, hlt j k List.mem_cons_self, (hl j (hlt j k List.mem_cons_self)).2 ⟨k, List.mem_cons_self⟩⟩
      have hmin : ∀ m, (∃ j, j ≤ m ∧ j < ops.size ∧ listed.getD j true = false) → ∃ j, j < ops.size ∧ listed.getD j true = false ∧ ∀ i, i < j → listed.getD i true = true := by
        intro m
        induction m with
        | zero => rintro ⟨j, hj, h1, h2⟩; exact ⟨j, h1, h2, fun i hi => by omega⟩
        | succ m ih =>
          rintro ⟨j, hj, h1, h2⟩
          by_cases h : ∃ j, j ≤ m ∧ j < ops.size ∧ listed.getD j true = false
          · exact ih h
          · refine ⟨j, h1, h2, fun i hi => ?_⟩
            cases hi' : listed.getD i true with
            | true => rfl
            | false => exact absurd ⟨i, by omega, by omega, hi'⟩ h
      obtain ⟨j, hj⟩ := hex
      obtain ⟨j, h1, h2, h3⟩ := hmin j ⟨j, Nat.le_refl _, hj⟩
      have hmem : j ∈ Region.ready .any ops listed := by
        refine mem_ready.2 ⟨h2, ops[j], Array.getElem?_eq_getElem h1, fun e he hb => ?_⟩
        have hb' := List.all_eq_true.1 hback j (List.mem_range.2 h1)
        rw [Array.getElem?_eq_getElem h1] at hb'
        have hlt' := Array.all_eq_true'.1 hb' e he
        simp only [hb, Bool.not_true, Bool.false_or, decide_eq_true_eq] at hlt'
        have := h3 e.on hlt'
        have hs : e.on < listed.size := by omega
        simpa [hs] using this
      rw [hr] at hmem
      cases hmem
    subst hnil
    exact hQ E O R hS a w ha hw
  intro fuel
  induction fuel with
  | zero =>
    intro π listed E O R a w hf hsz hl _ _ _ hS ha hw
    have hnil : π = [] := List.eq_nil_of_length_eq_zero (by omega)
    subst hnil
    refine ⟨?_, hQ E O R hS a w ha hw⟩
    apply List.eq_nil_iff_forall_not_mem.2
    intro i hi
    obtain ⟨h1, o, h2, _⟩ := mem_ready.1 hi
    obtain ⟨k, hk⟩ := (hl i (Array.getElem?_eq_some_iff.1 h2).1).1 h1
    cases hk
  | succ fuel ih =>
    intro π listed E O R a w hf hsz hl hnd hcl hp hS ha hw
    refine ⟨fun hr => ?_, fun i hi => ?_⟩
    · -- nothing may come up
      refine hnone π listed E O R a w hsz hl hr hS (fun j k hj => ?_) ha hw
      -- an index of π is one of the region's
      have : ∀ (π : List (Nat × Kd)), pairsOk ops π = true → 2 ≤ π.length → ∀ j k, (j, k) ∈ π → j < ops.size := by
        intro π hp h2 j k hj
        obtain ⟨A, B, rfl⟩ := List.append_of_mem hj
        cases A with
        | nil =>
          cases B with
          | nil => simp at h2
          | cons y B =>
            simp only [List.nil_append, pairsOk, Bool.and_eq_true, List.all_eq_true] at hp
            have := hp.1 y List.mem_cons_self
            obtain ⟨y1, y2⟩ := y
            dsimp only at this
            cases hj' : ops[j]? with
            | none => rw [hj'] at this; simp at this
            | some o => exact (Array.getElem?_eq_some_iff.1 hj').1
        | cons x A =>
          obtain ⟨x1, x2⟩ := x
          obtain ⟨g, _⟩ := pairsOk_mid ((x1, x2) :: A) B hp
          obtain ⟨p, q, _, hq, _⟩ := g x1 x2 List.mem_cons_self
          exact (Array.getElem?_eq_some_iff.1 hq).1
      by_cases h2 : 2 ≤ π.length
      · exact this π hp h2 j k hj
      · cases π with
        | nil => cases hj
        | cons x π =>
          have : π = [] := List.eq_nil_of_length_eq_zero (by simp only [List.length_cons] at h2; omega)
          subst this
          simp only [List.mem_singleton] at hj
          subst hj
          obtain ⟨o, ho, _⟩ := hS
          exact (Array.getElem?_eq_some_iff.1 ho).1
    · obtain ⟨h1, o, h2, h3⟩ := mem_ready.1 hi
      have hlt := (Array.getElem?_eq_some_iff.1 h2).1
      obtain ⟨k, hk⟩ := (hl i hlt).1 h1
      obtain ⟨A, B, rfl⟩ := List.append_of_mem hk
      obtain ⟨g1, g2⟩ := pairsOk_mid A B hp
      have hnot : ∀ j kj, (j, kj) ∈ A → listed.getD j false = false := fun j kj hj => by
        obtain ⟨p, q, hp', _⟩ := g1 j kj hj
        have := (hl j (Array.getElem?_eq_some_iff.1 hp').1).2 ⟨kj, List.mem_append.2 (.inl hj)⟩
        exact getDb this
      have hsw : ∀ j kj, (j, kj) ∈ A → ∃ p, ops[j]? = some p ∧ swapOk ops kj k p o = true := fun j kj hj => by
        obtain ⟨p, q, hp', hq', h⟩ := g1 j kj hj
        obtain rfl : o = q := Option.some.inj (h2.symm.trans hq')
        rcases h with h | h
        · have := reach_listed hcl ops.size [i] j (fun j' hj' o' ho' e he hb => by
            simp only [List.mem_singleton] at hj'
            subst hj'
            obtain rfl : o = o' := Option.some.inj (h2.symm.trans ho')
            exact h3 e he hb) h
          rw [hnot j kj hj] at this
          cases this
        · exact ⟨p, hp', h⟩
      have hfront := SW.front hK h2 A B E O R hsw hS
      obtain ⟨o', ho', hst⟩ := hfront
      obtain rfl : o = o' := Option.some.inj (h2.symm.trans ho')
      have hi' : i < listed.size := by omega
      refine Stp.wpOp (ops := ops) h2 hst (fun E' O' R' hS' a' w' ha' hw' => ?_) ha hw
      refine ih (A ++ B) _ E' O' R' a' w' (by simp only [List.length_append, List.length_cons] at hf ⊢; omega) (by simpa using hsz) (fun j hj => ?_) ?_ (fun j oj hoj hlj e he hb => ?_) g2 hS' ha' hw'
      · rw [getD_set hi']
        have hndi : ∀ k', (i, k') ∉ A ++ B := by
          intro k' hk'
          simp only [List.map_append, List.map_cons] at hnd
          rw [List.nodup_append] at hnd
          obtain ⟨n1, n2, n3⟩ := hnd
          rcases List.mem_append.1 hk' with hk' | hk'
          · exact n3 i (List.mem_map_of_mem (f := (·.1)) hk') i List.mem_cons_self rfl
          · exact (List.nodup_cons.1 n2).1 (List.mem_map_of_mem (f := (·.1)) hk')
        by_cases hij : i = j
        · subst hij
          rw [if_pos rfl]
          exact ⟨fun h => by (cases h), fun ⟨k', hk'⟩ => absurd hk' (hndi k')⟩
        · rw [if_neg hij, hl j hj]
          constructor
          · rintro ⟨k', hk'⟩
            refine ⟨k', ?_⟩
            rcases List.mem_append.1 hk' with hk' | hk'
            · exact List.mem_append.2 (.inl hk')
            · rcases List.mem_cons.1 hk' with hk' | hk'
              · cases hk'; exact absurd rfl hij
              · exact List.mem_append.2 (.inr hk')
          · rintro ⟨k', hk'⟩
            refine ⟨k', ?_⟩
            rcases List.mem_append.1 hk' with hk' | hk'
            · exact List.mem_append.2 (.inl hk')
            · exact List.mem_append.2 (.inr (List.mem_cons_of_mem _ hk'))
      · simp only [List.map_append, List.map_cons] at hnd ⊢
        exact hnd.sublist (List.Sublist.append_left (List.sublist_cons_self _ _) _)
      · rw [getD_set hi'] at hlj ⊢
        split at hlj
        · rename_i hij
          subst hij
          obtain rfl : o = oj := Option.some.inj (h2.symm.trans hoj)
          rw [h3 e he hb]
          split <;> rfl
        · rw [hcl j oj hoj hlj e he hb]
          split <;> rfl


/-- **A region that draws its order, walked in the order π: S turns, R is only read.** -/
theorem V.drawR {id : Nat} {l : List Oper} {Q : Exit → Act → World → Prop} (π : List (Nat × Kd)) (T : Tab) (S R : List Ent) (hm : P.follows .mixedOrders = true) (hok : (permOk l.length π && pairsOk l.toArray π && backOk l.toArray) = true) (hO : ∀ w, Hp w0 O w → Hp w0 (S ++ R) w)
    (h : SW P n w0 l.toArray T (fun E S R => VE n w0 (S ++ R) E Q .normal) π E S R) : V P n w0 O E (.region id l.toArray true) Q := by
  intro a w ha hw
  simp only [Bool.and_eq_true] at hok
  obtain ⟨⟨h1, h2⟩, h3⟩ := hok
  obtain ⟨n1, n2⟩ := permOk_nodup h1
  refine wp_region_any hm ?_
  have hlen : π.length = l.toArray.size := by
    simp only [permOk, Bool.and_eq_true, decide_eq_true_eq] at h1
    simpa using h1.1.2
  refine any_of_walk (K := fun E S R => VE n w0 (S ++ R) E Q .normal) (fun E E' O O' R hE hO h a w ha hw => h a w (ha.mono fun t u ht => by rw [hE]; exact ht) (hp_nil (frame hO) w hw)) (fun _ _ _ h => h) h3 _ π _ E S R a _ (by omega) (by simp) (fun j hj => ?_) n1 (fun j o _ hj => ?_) h2 h ha ((hO _ hw).ext (below_drew _ _))
  · simp only [List.size_toArray] at hj
    exact ⟨fun _ => n2 j hj, fun _ => by simp [hj]⟩
  · rw [getD_replicate_false'] at hj
    cases hj
where
  getD_replicate_false' {m j : Nat} : (Array.replicate m false).getD j false = false := by
    rcases Nat.lt_or_ge j m with h | h
    · simp [h]
    · simp [h]

/-! ### steps of such a walk -/
section
variable {o : Oper} {i d : Nat} {π : List (Nat × Kd)} {K : Env → List Ent → List Ent → Prop}
theorem SW.q {u : Value} (ho : ops[i]? = some o) (hg : Wants ops E o) (hd : o.dst = some d) (hdn : d < n) (hy : YQ P w0 (O ++ R) E o u) (h : SW P n w0 ops T K π ((d, u) :: E) O R) : SW P n w0 ops T K ((i, 0) :: π) E O R :=
  ⟨o, ho, by rw [Stp, if_neg (by decide), if_neg (by decide)]; exact ⟨_, _, _, ⟨()⟩, .quiet hg.guard hy, dok hd hdn, fun _ => by rw [hd]; exact h⟩⟩
theorem SW.p {u : Value} (ho : ops[i]? = some o) (hg : Wants ops E o) (hd : o.dst = some d) (hdn : d < n) (hy : YQ P w0 R E o u) (h : SW P n w0 ops T K π ((d, u) :: E) O R) : SW P n w0 ops T K ((i, 5) :: π) E O R :=
  ⟨o, ho, by rw [Stp, if_neg (by decide), if_neg (by decide)]; exact ⟨_, _, _, ⟨()⟩, .quietR hg.guard hy, dok hd hdn, fun _ => by rw [hd]; exact h⟩⟩
theorem SW.r {u : Value} (ho : ops[i]? = some o) (hg : Wants ops E o) (hd : o.dst = some d) (hdn : d < n) (hy : YR P E o u) (h : SW P n w0 ops T K π ((d, u) :: E) O R) : SW P n w0 ops T K ((i, 5) :: π) E O R := SW.p ho hg hd hdn hy.q h
theorem SW.new {X : Type} [hX : Nonempty X] {u : X → Value} {N : X → List Ent} (ho : ops[i]? = some o) (hg : Wants ops E o) (hd : o.dst = some d) (hdn : d < n) (hy : YN P w0 (O ++ R) E o u N) (h : ∀ x, SW P n w0 ops T K π ((d, u x) :: E) (N x ++ O) R) : SW P n w0 ops T K ((i, 1) :: π) E O R :=
  ⟨o, ho, by rw [Stp, if_neg (by decide), if_neg (by decide)]; exact ⟨_, _, _, hX, .make hg.guard hy, dok hd hdn, fun x => by rw [hd]; exact h x⟩⟩
theorem SW.new1 {X : Type} [Nonempty X] {u : X → Value} {N : X → Ent} (ho : ops[i]? = some o) (hg : Wants ops E o) (hd : o.dst = some d) (hdn : d < n) (hy : YN P w0 (O ++ R) E o u (fun x => [N x])) (h : ∀ x, SW P n w0 ops T K π ((d, u x) :: E) (N x :: O) R) : SW P n w0 ops T K ((i, 1) :: π) E O R := SW.new ho hg hd hdn hy h
theorem SW.a {u : Nat → Value} {e : Nat → Ent} (ho : ops[i]? = some o) (hg : o.guard = none) (hd : o.dst = some d) (hdn : d < n) (hT : T.get i = (u, e)) (hy : ∀ w0, YN P w0 [] E o u (fun b => [e b])) (h : ∀ b, SW P n w0 ops T K π ((d, u b) :: E) (e b :: O) R) : SW P n w0 ops T K ((i, 2) :: π) E O R :=
  ⟨o, ho, by
    rw [Stp, if_pos rfl, hT]
    exact ⟨hg, dok hd hdn, YA.of hy, fun b => by rw [hd]; exact h b⟩⟩
theorem SW.c {X : Type} [hX : Nonempty X] {u : X → Value} {O' : X → List Ent} (ho : ops[i]? = some o) (hg : Wants ops E o) (hd : o.dst = some d) (hdn : d < n) (hy : YC P w0 (O ++ R) E o u (fun x => O' x ++ R)) (h : ∀ x, SW P n w0 ops T K π ((d, u x) :: E) (O' x) R) : SW P n w0 ops T K ((i, 3) :: π) E O R :=
  ⟨o, ho, by rw [Stp, if_neg (by decide), if_neg (by decide)]; exact ⟨_, _, _, hX, .turn hg.guard hy, dok hd hdn, fun x => by rw [hd]; exact h x⟩⟩
theorem SW.s {X : Type} [hX : Nonempty X] {u : X → Value} {O' : X → List Ent} (ho : ops[i]? = some o) (hg : Wants ops E o) (hd : o.dst = none) (hy : YC P w0 (O ++ R) E o u (fun x => O' x ++ R)) (h : ∀ x, SW P n w0 ops T K π E (O' x) R) : SW P n w0 ops T K ((i, 3) :: π) E O R :=
  ⟨o, ho, by rw [Stp, if_neg (by decide), if_neg (by decide)]; exact ⟨_, _, _, hX, .turn hg.guard hy, (fun d' h' => by rw [hd] at h'; cases h'), fun x => by rw [hd]; exact h x⟩⟩
theorem SW.no {k : Kd} {j t : Nat} {b b' : Bool} (ho : ops[i]? = some o) (hk : k ≠ 2 ∧ k ≠ 4) (hg : o.guard = some (j, b)) (hj : (ops[j]?).bind (·.dst) = some t) (hb : E.get t = some (.bool b')) (hne : (b' == b) = false) (hd : o.dst = some d) (hdn : d < n)
    (h : SW P n w0 ops T K π ((d, undef) :: E) O R) : SW P n w0 ops T K ((i, k) :: π) E O R :=
  ⟨o, ho, by
    rw [Stp, if_neg hk.1, if_neg hk.2]
    refine ⟨_, _, _, ⟨()⟩, .skip (hne ▸ Guard.some hg hj hb), dok hd hdn, fun _ => by rw [hd]; exact h⟩⟩
theorem SW.split (hK : Lax3 w0 K) (t : Nat) (b : Bool) (hb : E.get t = some (.bool b)) (ht : b = true → SW P n w0 ops T K π ((t, .bool true) :: E) O R) (hf : b = false → SW P n w0 ops T K π ((t, .bool false) :: E) O R) : SW P n w0 ops T K π E O R := by
  cases b with
  | true => exact SW.lax hK π _ _ _ _ _ (fun s => (Env.get_shadow t _ E hb s).symm) (fun _ _ h => h) (ht rfl)
  | false => exact SW.lax hK π _ _ _ _ _ (fun s => (Env.get_shadow t _ E hb s).symm) (fun _ _ h => h) (hf rfl)
theorem eqO {O' : List Ent} {S : Act → World → Prop} (h : O = O') (hk : VX n w0 O' E S) : VX n w0 O E S := h ▸ hk
theorem SW.t {X : Type} [hX : Nonempty X] {u : X → Value} {O' : X → List Ent} (ho : ops[i]? = some o) (hg : Wants ops E o) (hd : o.dst = none) (hy : YC P w0 (O ++ R) E o u O') (h : ∀ x, SW P n w0 ops T K π E (O' x) []) : SW P n w0 ops T K ((i, 4) :: π) E O R :=
  ⟨o, ho, by rw [Stp, if_neg (by decide), if_pos rfl]; exact ⟨_, _, _, hX, hg.guard, hy, (fun d' h' => by rw [hd] at h'; cases h'), fun x => by rw [hd]; exact h x⟩⟩
theorem SW.done (h : K E O R) : SW P n w0 ops T K [] E O R := h
end
end
end Dr
theorem Hp.pick {w0 w : World} {O M F : List Ent} (hw : Hp w0 O w) (h : Pick O M F) : Hp w0 M w := (hw.perm' h.perm).sub (List.sublist_append_right _ _)
end Go.Proofs.YtmecikeaogjmpaaDoor


namespace Go.Proofs.YtmecikeaogjmpaaDoor
open Go.RowKit
set_option linter.unusedVariables false
set_option linter.unusedSimpArgs false
set_option maxRecDepth 20000

theorem mixed_Co : Tryd.prog.follows .mixedOrders = true := by kernel_rfl
theorem sz9_Co : (Tryd.prog.info? 9).map (·.size) = some 1 := by kernel_rfl
theorem fb9_Co : flatB Tryd.prog 9 = true := by kernel_rfl
theorem elt9_Co : Elt Tryd.prog 9 [Value.string ⟨#[]⟩] 16 := Elt.mk' (by kernel_rfl) (by decide)
theorem known38_Co : Known Tryd.prog 38 := Known.mk' Tryd.func38 (by kernel_rfl)
attribute [local irreducible] lnB coOk coB coG badK isBad scmp

theorem c_cut {w : World} {s : ByteArray} (hs : s.size ≤ 1048576) : New Tryd.prog 38 [.string s, .int .u8 10] w (fun p : {p : Nat × Nat // (lnB s).length - 1 ≤ p.2} => .slice (some ⟨p.1.1, 0, none⟩) (lnB s).length p.1.2) (fun p => [⟨some ⟨p.1.1, 0, none⟩, sx (lnB s), p.1.2 * 1, 9⟩]) := by
  refine New.enter Tryd.func38 rfl Tryd.ntmps38 (Nat.le_of_ble_eq_true rfl) ?_
  refine V.seq ?_
  refine V.region ?_
  refine VL.r (.inl rfl) rfl (by decide) (yr_assign (u := .slice none 0 0) rfl rfl) ?_
  refine VL.nil ?_
  refine VE.then_wp ?_
  refine V.seq ?_
  refine V.region ?_
  refine VL.new1 (.inl rfl) rfl (by decide) (yn_lit rfl Tryd.underlying25 elt9_Co rfl (by decide) .nil (by first | (simp; done) | (simp [cn, cn1, cn0]; done)) rfl rfl rfl) ?_
  intro b8
  refine VL.r (.inl rfl) rfl (by decide) (yr_assign rfl rfl) ?_
  refine VL.nil ?_
  refine VE.then_wp ?_
  refine V.seq ?_
  refine V.region ?_
  refine VL.r (.inl rfl) rfl (by decide) (yr_assign (u := .int .i64 0) rfl rfl) ?_
  refine VL.nil ?_
  refine VE.then_wp ?_
  refine V.seq ?_
  refine V.seq ?_
  refine V.region ?_
  refine VL.r (.inl rfl) rfl (by decide) (yr_assign (u := .int .i64 0) rfl rfl) ?_
  refine VL.nil ?_
  refine VE.then_wp ?_
  refine V.block ?_
  refine V.loopc (G := Nat × (List ByteArray) × Nat × (Option Addr) × Nat) [(0, _), (1, _)] (fun ⟨i, out, fr, ar, cr⟩ => CutI s out fr i ∧ out.length ≤ i ∧ i ≤ s.size + 1) (fun ⟨i, out, fr, ar, cr⟩ => [⟨ar, sx out, cr * 1, 9⟩]) (fun ⟨i, out, fr, ar, cr⟩ => [(5, .slice ar out.length cr), (6, .int .i64 (fr : Int)), (7, .int .i64 (i : Int))]) (fun ⟨i, out, fr, ar, cr⟩ => s.size + 1 - i) (0, [], 0, some ⟨b8, 0, none⟩, 0) (.cons rfl (.cons rfl .nil)) (.cons rfl (.cons rfl (.cons rfl .nil))) ?_ ?_ ?_
  · exact (fun w hw => hw)
  · exact (by exact ⟨cutI_0, Nat.le_refl _, Nat.zero_le _⟩)
  rintro ⟨i, out, fr, ar, cr⟩ ⟨hI, hl9, hi9⟩
  show V _ _ _ [⟨ar, sx out, cr * 1, 9⟩] ([(5, .slice ar out.length cr), (6, .int .i64 (fr : Int)), (7, .int .i64 (i : Int))] ++ [(0, _), (1, _)]) _ _
  refine V.seq ?_
  refine V.seq ?_
  refine V.region ?_
  refine VL.r (.inl rfl) rfl (by decide) (yr_move rfl rfl) ?_
  refine VL.r (.inl rfl) rfl (by decide) (yr_move rfl rfl) ?_
  refine VL.r (.inl rfl) rfl (by decide) (yr_lenString rfl Tryd.underlying9 rfl) ?_
  refine VL.r (.inl rfl) rfl (by decide) (yr_icmp rfl (.inr (.inr (.inr (.inl rfl)))) rfl rfl) ?_
  refine VL.nil ?_
  refine VE.then_wp ?_
  refine V.cond rfl (fun h1 => ?_) (fun h1 => ?_)
  · skip
    replace h1 := ic_leq h1
    refine V.skip ?_
    refine VE.then_wp ?_
    refine V.seq ?_
    refine V.block ?_
    refine V.seq ?_
    refine V.region ?_
    refine VL.r (.inl rfl) rfl (by decide) (yr_move rfl rfl) ?_
    refine VL.r (.inl rfl) rfl (by decide) (yr_move rfl rfl) ?_
    refine VL.r (.inl rfl) rfl (by decide) (yr_lenString rfl Tryd.underlying9 rfl) ?_
    refine VL.r (.inl rfl) rfl (by decide) (yr_icmp rfl (.inl rfl) rfl rfl) ?_
    refine VL.r (.inl rfl) rfl (by decide) (yr_move rfl rfl) ?_
    refine VX.split 19 _ rfl (fun h2 => ?_) (fun h2 => ?_)
    · skip
      replace h2 := ic_eql h2
      refine VL.no rfl rfl rfl rfl rfl (by decide) ?_
      refine VL.no rfl rfl rfl rfl rfl (by decide) ?_
      refine VL.no rfl rfl rfl rfl rfl (by decide) ?_
      refine VL.no rfl rfl rfl rfl rfl (by decide) ?_
      refine VL.no rfl rfl rfl rfl rfl (by decide) ?_
      refine VL.r (.inl rfl) rfl (by decide) (yr_pick_t (u := .bool true) rfl rfl rfl) ?_
      refine VL.nil ?_
      refine VE.then_wp ?_
      refine V.condT rfl ?_
      refine V.seq ?_
      refine V.region ?_
      refine VL.r (.inl rfl) rfl (by decide) (yr_move rfl rfl) ?_
      refine VL.r (.inl rfl) rfl (by decide) (yr_move rfl rfl) ?_
      refine VL.r (.inl rfl) rfl (by decide) (yr_move rfl rfl) ?_
      refine VL.r (.inl rfl) rfl (by decide) (yr_move rfl rfl) ?_
      refine VL.r (.inl rfl) rfl (by decide) (yr_strPart (l := fr) (h := i) rfl Tryd.underlying9 rfl (OptI.at rfl rfl) (OptI.at rfl rfl) ((cutI_le hI).2 (by omega)) (by omega)) ?_
      refine VL.new1 (.inl rfl) rfl (by decide) (yn_lit rfl Tryd.underlying25 elt9_Co rfl (by decide) (.cons rfl .nil) (by first | (simp; done) | (simp [cn, cn1, cn0]; done)) rfl rfl rfl) ?_
      intro b31
      refine VL.c (.inl rfl) rfl (by decide) (yc_appendz 1 rfl rfl Tryd.underlying25 elt9_Co rfl rfl (by repeat (first | exact UpdF.here | apply UpdF.there | apply UpdF.thereS)) (by first | exact Sees.root (by assumption) | exact Sees.own (by repeat (first | exact List.mem_cons_self | exact List.mem_append_left _ (by assumption) | apply List.mem_cons_of_mem | apply List.mem_append_right)) | exact Sees.root (hR _ (by omega)) | exact Sees.own (RowsIn.mem (by repeat (first | exact RowsIn.here | exact RowsIn.last | apply RowsIn.there | apply RowsIn.thereS)) _ (by omega)) | exact Sees.own (WRowsIn.mem (by repeat (first | exact WRowsIn.here | exact WRowsIn.last | apply WRowsIn.there | apply WRowsIn.thereS)) _ (by omega))) rfl (by rw [sx_length, Nat.mul_one]) rfl (by first | rfl | exact sx_scal _) rfl (by omega) (by omega)) ?_
      rintro ⟨a32, c32⟩
      refine VL.r (.inl rfl) rfl (by decide) (yr_assign rfl rfl) ?_
      refine VL.nil ?_
      refine VE.then_wp ?_
      refine V.region ?_
      refine VL.r (.inl rfl) rfl (by decide) (yr_move rfl rfl) ?_
      refine VL.r (.inl rfl) rfl (by decide) (yr_int rfl rfl rfl (.inl ⟨rfl, wrap_in (by omega)⟩)) ?_
      refine VL.r (.inl rfl) rfl (by decide) (yr_assign rfl rfl) ?_
      refine VL.nil ?_
      refine VE.block_normal ?_
      refine VE.then_wp ?_
      refine V.region ?_
      refine VL.r (.inl rfl) rfl (by decide) (yr_move rfl rfl) ?_
      refine VL.r (.inl rfl) rfl (by decide) (yr_int rfl rfl rfl (.inl ⟨rfl, wrap_in (by omega)⟩)) ?_
      refine VL.r (.inl rfl) rfl (by decide) (yr_assign rfl rfl) ?_
      refine VL.nil ?_
      refine VE.round (i + 1, out ++ [s.extract fr i], i + 1, a32, c32) ?_ ?_ ?_ ?_ ?_
      · exact (.cons (congrArg (fun n => some (Value.slice _ n _)) (by first | rfl | (rw [List.length_append]; rfl))) (.cons rfl (.cons rfl .nil)))
      · exact (.cons rfl (.cons rfl .nil))
      · exact (fun w hw => by dsimp only; rw [← sx_snoc]; exact hw.pick (by apply Pick.one; repeat (first | exact Rem.here | apply Rem.there)))
      · dsimp only
        rw [List.length_append]
        first
          | exact ⟨cutI_end hI (by omega), by show out.length + 1 ≤ i + 1; omega, by omega⟩
          | exact ⟨cutI_hit hI (by omega) (by omega), by show out.length + 1 ≤ i + 1; omega, by omega⟩
      · (try dsimp only); omega
    · skip
      replace h2 := ic_eql' h2
      refine VL.r (.inr ⟨_, _, _, rfl, rfl, rfl⟩) rfl (by decide) (yr_move rfl rfl) ?_
      refine VL.r (.inr ⟨_, _, _, rfl, rfl, rfl⟩) rfl (by decide) (yr_move rfl rfl) ?_
      refine VL.r (.inr ⟨_, _, _, rfl, rfl, rfl⟩) rfl (by decide) (yr_strByte (i := i) rfl Tryd.underlying9 rfl rfl (by first | rfl | omega | (push_cast; rfl) | (push_cast; omega)) (by omega)) ?_
      refine VL.r (.inr ⟨_, _, _, rfl, rfl, rfl⟩) rfl (by decide) (yr_move rfl rfl) ?_
      refine VL.r (.inr ⟨_, _, _, rfl, rfl, rfl⟩) rfl (by decide) (yr_icmp rfl (.inl rfl) rfl rfl) ?_
      refine VL.r (.inl rfl) rfl (by decide) (yr_pick_f rfl rfl rfl) ?_
      refine VL.nil ?_
      refine VE.then_wp ?_
      refine V.cond rfl (fun h4 => ?_) (fun h4 => ?_)
      · skip
        replace h4 := ic_eql h4
        refine V.seq ?_
        refine V.region ?_
        refine VL.r (.inl rfl) rfl (by decide) (yr_move rfl rfl) ?_
        refine VL.r (.inl rfl) rfl (by decide) (yr_move rfl rfl) ?_
        refine VL.r (.inl rfl) rfl (by decide) (yr_move rfl rfl) ?_
        refine VL.r (.inl rfl) rfl (by decide) (yr_move rfl rfl) ?_
        refine VL.r (.inl rfl) rfl (by decide) (yr_strPart (l := fr) (h := i) rfl Tryd.underlying9 rfl (OptI.at rfl rfl) (OptI.at rfl rfl) ((cutI_le hI).2 (by omega)) (by omega)) ?_
        refine VL.new1 (.inl rfl) rfl (by decide) (yn_lit rfl Tryd.underlying25 elt9_Co rfl (by decide) (.cons rfl .nil) (by first | (simp; done) | (simp [cn, cn1, cn0]; done)) rfl rfl rfl) ?_
        intro b31
        refine VL.c (.inl rfl) rfl (by decide) (yc_appendz 1 rfl rfl Tryd.underlying25 elt9_Co rfl rfl (by repeat (first | exact UpdF.here | apply UpdF.there | apply UpdF.thereS)) (by first | exact Sees.root (by assumption) | exact Sees.own (by repeat (first | exact List.mem_cons_self | exact List.mem_append_left _ (by assumption) | apply List.mem_cons_of_mem | apply List.mem_append_right)) | exact Sees.root (hR _ (by omega)) | exact Sees.own (RowsIn.mem (by repeat (first | exact RowsIn.here | exact RowsIn.last | apply RowsIn.there | apply RowsIn.thereS)) _ (by omega)) | exact Sees.own (WRowsIn.mem (by repeat (first | exact WRowsIn.here | exact WRowsIn.last | apply WRowsIn.there | apply WRowsIn.thereS)) _ (by omega))) rfl (by rw [sx_length, Nat.mul_one]) rfl (by first | rfl | exact sx_scal _) rfl (by omega) (by omega)) ?_
        rintro ⟨a32, c32⟩
        refine VL.r (.inl rfl) rfl (by decide) (yr_assign rfl rfl) ?_
        refine VL.nil ?_
        refine VE.then_wp ?_
        refine V.region ?_
        refine VL.r (.inl rfl) rfl (by decide) (yr_move rfl rfl) ?_
        refine VL.r (.inl rfl) rfl (by decide) (yr_int rfl rfl rfl (.inl ⟨rfl, wrap_in (by omega)⟩)) ?_
        refine VL.r (.inl rfl) rfl (by decide) (yr_assign rfl rfl) ?_
        refine VL.nil ?_
        refine VE.block_normal ?_
        refine VE.then_wp ?_
        refine V.region ?_
        refine VL.r (.inl rfl) rfl (by decide) (yr_move rfl rfl) ?_
        refine VL.r (.inl rfl) rfl (by decide) (yr_int rfl rfl rfl (.inl ⟨rfl, wrap_in (by omega)⟩)) ?_
        refine VL.r (.inl rfl) rfl (by decide) (yr_assign rfl rfl) ?_
        refine VL.nil ?_
        refine VE.round (i + 1, out ++ [s.extract fr i], i + 1, a32, c32) ?_ ?_ ?_ ?_ ?_
        · exact (.cons (congrArg (fun n => some (Value.slice _ n _)) (by first | rfl | (rw [List.length_append]; rfl))) (.cons rfl (.cons rfl .nil)))
        · exact (.cons rfl (.cons rfl .nil))
        · exact (fun w hw => by dsimp only; rw [← sx_snoc]; exact hw.pick (by apply Pick.one; repeat (first | exact Rem.here | apply Rem.there)))
        · dsimp only
          rw [List.length_append]
          first
            | exact ⟨cutI_end hI (by omega), by show out.length + 1 ≤ i + 1; omega, by omega⟩
            | exact ⟨cutI_hit hI (by omega) (by omega), by show out.length + 1 ≤ i + 1; omega, by omega⟩
        · (try dsimp only); omega
      · skip
        replace h4 := ic_eql' h4
        refine V.skip ?_
        refine VE.block_normal ?_
        refine VE.then_wp ?_
        refine V.region ?_
        refine VL.r (.inl rfl) rfl (by decide) (yr_move rfl rfl) ?_
        refine VL.r (.inl rfl) rfl (by decide) (yr_int rfl rfl rfl (.inl ⟨rfl, wrap_in (by omega)⟩)) ?_
        refine VL.r (.inl rfl) rfl (by decide) (yr_assign rfl rfl) ?_
        refine VL.nil ?_
        refine VE.round (i + 1, out, fr, ar, cr) ?_ ?_ ?_ ?_ ?_
        · exact (.cons (congrArg (fun n => some (Value.slice _ n _)) (by first | rfl | (rw [List.length_append]; rfl))) (.cons rfl (.cons rfl .nil)))
        · exact (.cons rfl (.cons rfl .nil))
        · exact (fun w hw => hw)
        · exact ⟨cutI_skip hI (by omega) (by omega), by omega, by omega⟩
        · (try dsimp only); omega
  · skip
    replace h1 := ic_leq' h1
    refine V.exit ?_
    refine VE.then_exit ?_
    refine VE.then_exit ?_
    refine VE.block_here ?_
    refine VE.then_wp ?_
    refine V.seq ?_
    refine V.region ?_
    refine VL.r (.inl rfl) rfl (by decide) (yr_move rfl rfl) ?_
    refine VL.r (.inl rfl) rfl (by decide) (yr_assign rfl rfl) ?_
    refine VL.nil ?_
    refine VE.then_wp ?_
    refine V.ret ?_
    refine ret1 rfl rfl (fun w1 hw => ?_)
    obtain rfl := cutI_done hI (by omega)
    obtain ⟨b9, rfl⟩ := ent_form hw (lnB_sx_ne s)
    exact ⟨⟨(b9, cr), by have h71 := cap_le hw; rw [sx_length] at h71; show (lnB s).length - 1 ≤ cr; omega⟩, rfl, hw.out1⟩

theorem c_l08Lines {w : World} {s : ByteArray} (hs : s.size ≤ 1048576) : New Tryd.prog 22 [.string s] w (fun p : {p : Nat × Nat // (lnB s).length - 1 ≤ p.2} => .tuple #[.slice (some ⟨p.1.1, 0, none⟩) ((lnB s).length - 1) p.1.2, .string (coL s)]) (fun p => [⟨some ⟨p.1.1, 0, none⟩, sx (lnB s), p.1.2 * 1, 9⟩]) := by
  refine New.enter Tryd.func22 rfl Tryd.ntmps22 (Nat.le_of_ble_eq_true rfl) ?_
  have hN := lnB_len s
  have hN2 := lnB_le s
  refine V.seq ?_
  refine V.region ?_
  refine VL.r (.inl rfl) rfl (by decide) (yr_assign (u := .slice none 0 0) rfl rfl) ?_
  refine VL.r (.inl rfl) rfl (by decide) (yr_assign rfl rfl) ?_
  refine VL.nil ?_
  refine VE.then_wp ?_
  refine V.seq ?_
  refine V.region ?_
  refine VL.r (.inl rfl) rfl (by decide) (yr_move rfl rfl) ?_
  refine VL.new1 (.inl rfl) rfl (by decide) (yn_callf rfl known38_Co (.cons rfl (.cons rfl .nil)) (fun w hw => (c_cut (by omega)))) ?_
  rintro ⟨⟨a6, c6⟩, hc6⟩
  dsimp only at hc6
  refine VL.r (.inl rfl) rfl (by decide) (yr_assign rfl rfl) ?_
  refine VL.nil ?_
  refine VE.then_wp ?_
  refine V.seq ?_
  refine Dr.V.drawR [(0, 5), (1, 5), (2, 5), (3, 5), (4, 5), (5, 5), (6, 5), (7, 5), (8, 5), (9, 5), (10, 5), (11, 5), (12, 5)] [] [] _ mixed_Co (by kernel_rfl) (fun w hw => hw) ?_
  refine Dr.SW.r rfl (.inl rfl) rfl (by decide) (yr_move rfl rfl) ?_
  refine Dr.SW.r rfl (.inl rfl) rfl (by decide) (yr_move rfl rfl) ?_
  refine Dr.SW.r rfl (.inl rfl) rfl (by decide) (yr_len rfl Tryd.underlying25 rfl) ?_
  refine Dr.SW.r rfl (.inl rfl) rfl (by decide) (yr_int rfl rfl rfl (.inr (.inl ⟨rfl, wrap_in (by omega)⟩))) ?_
  refine Dr.SW.r rfl (.inl rfl) rfl (by decide) (YR.cast (u' := .slice (some ⟨a6, 0, none⟩) ((lnB s).length - 1) c6) (by rw [slA_zero, Nat.sub_zero, Nat.sub_zero]) (yr_slice (l := 0) (hh := (lnB s).length - 1) (mm := c6) rfl Tryd.underlying25 sz9_Co rfl OptI.no (OptI.at rfl (by omega)) OptI.no (Nat.le_refl _) hc6 (Nat.zero_le _) (.inl rfl) (fun h => by cases h))) ?_
  refine Dr.SW.r rfl (.inl rfl) rfl (by decide) (yr_move rfl rfl) ?_
  refine Dr.SW.r rfl (.inl rfl) rfl (by decide) (yr_move rfl rfl) ?_
  refine Dr.SW.r rfl (.inl rfl) rfl (by decide) (yr_len rfl Tryd.underlying25 rfl) ?_
  refine Dr.SW.r rfl (.inl rfl) rfl (by decide) (yr_int rfl rfl rfl (.inr (.inl ⟨rfl, wrap_in (by omega)⟩))) ?_
  refine Dr.SW.p rfl (.inl rfl) rfl (by decide) (yq_idx (k := ((lnB s).length - 1)) rfl Tryd.underlying25 sz9_Co rfl rfl (by first | exact Sees.root (by assumption) | exact Sees.own (by (try simp only [List.append_assoc, List.cons_append, List.nil_append]); repeat (first | exact List.mem_cons_self | exact List.mem_append_left _ (by assumption) | apply List.mem_cons_of_mem | apply List.mem_append_right)) | exact Sees.root (hR _ (by omega)) | exact Sees.own (RowsIn.mem (by (try simp only [List.append_assoc, List.cons_append, List.nil_append]); repeat (first | exact RowsIn.here | exact RowsIn.last | apply RowsIn.there | apply RowsIn.thereS)) _ (by omega)) | exact Sees.own (WRowsIn.mem (by (try simp only [List.append_assoc, List.cons_append, List.nil_append]); repeat (first | exact WRowsIn.here | exact WRowsIn.last | apply WRowsIn.there | apply WRowsIn.thereS)) _ (by omega))) (by first | rfl | omega | (push_cast; rfl) | (push_cast; omega) | exact tmod_nat _ _) (by exact sx_length _) (by omega)) ?_
  refine Dr.SW.p rfl (.inl rfl) rfl (by decide) (yq_load (u := .string (coL s)) rfl fb9_Co rfl (by first | exact Sees.root (by assumption) | exact Sees.own (by (try simp only [List.append_assoc, List.cons_append, List.nil_append]); repeat (first | exact List.mem_cons_self | exact List.mem_append_left _ (by assumption) | apply List.mem_cons_of_mem | apply List.mem_append_right)) | exact Sees.root (hR _ (by omega)) | exact Sees.own (RowsIn.mem (by (try simp only [List.append_assoc, List.cons_append, List.nil_append]); repeat (first | exact RowsIn.here | exact RowsIn.last | apply RowsIn.there | apply RowsIn.thereS)) _ (by omega)) | exact Sees.own (WRowsIn.mem (by (try simp only [List.append_assoc, List.cons_append, List.nil_append]); repeat (first | exact WRowsIn.here | exact WRowsIn.last | apply WRowsIn.there | apply WRowsIn.thereS)) _ (by omega))) (sx_get (by omega))) ?_
  refine Dr.SW.r rfl (.inl rfl) rfl (by decide) (yr_assign rfl rfl) ?_
  refine Dr.SW.r rfl (.inl rfl) rfl (by decide) (yr_assign rfl rfl) ?_
  refine Dr.SW.done ?_
  refine Dr.eqO (by simp only [List.append_nil, List.append_assoc, List.cons_append, List.nil_append] <;> rfl) ?_
  refine VE.then_wp ?_
  refine V.ret ?_
  refine ret2 rfl rfl rfl (by nofun) (by nofun) (fun w1 hw => ?_)
  exact ⟨⟨(a6, c6), hc6⟩, rfl, hw.out1⟩

end Go.Proofs.YtmecikeaogjmpaaDoor


namespace Go.Proofs.YtmecikeaogjmpaaDoor
open Go.RowKit

section
variable {P : Program} {E : Env} {o : Oper}
end

theorem wrap_quo {a b : Int} (h : 0 ≤ a ∧ a ≤ 9223372036854775807 ∧ 0 < b) : IntKind.i64.wrap (a.tdiv b) = a.tdiv b := by
  obtain ⟨h1, h2, h3⟩ := h
  have e : a.tdiv b = a / b := Int.tdiv_eq_ediv_of_nonneg h1
  have e1 : 0 ≤ a / b := Int.ediv_nonneg h1 (by omega)
  have e2 : a / b ≤ a := Int.ediv_le_self b h1
  rw [e]
  exact wrap_in (by omega)
theorem in_t {n lo hi : Int} (h : lo ≤ n) : icmp .leq n hi = decide (lo ≤ n ∧ n ≤ hi) := by
  rw [Bool.eq_iff_iff, decide_eq_true_eq]
  constructor
  · intro h; have := ic_leq h; omega
  · rintro ⟨_, h⟩; exact decide_eq_true h
theorem in_f {n lo hi : Int} (h : n < lo) : false = decide (lo ≤ n ∧ n ≤ hi) := by
  symm; rw [decide_eq_false_iff_not]; omega
end Go.Proofs.YtmecikeaogjmpaaDoor


namespace Go.Proofs.YtmecikeaogjmpaaDoor

end Go.Proofs.YtmecikeaogjmpaaDoor


namespace Go.Proofs.YtmecikeaogjmpaaDoor
open Go.RowKit

abbrev V3 := Nat × Nat × Nat
def z3 : V3 := (0, 0, 0)
def vl : List V3 → List Value
  | [] => []
  | v :: vs => .float .f32 v.1 :: .float .f32 v.2.1 :: .float .f32 v.2.2 :: vl vs
section
variable {P : Program} {n : Nat} {w0 : World} {O : List Ent} {E : Env} {o : Oper}
end

def Can3 (a : V3) : Prop := Can .f32 a.1 ∧ Can .f32 a.2.1 ∧ Can .f32 a.2.2
/-! ### the field of a segment -/
end Go.Proofs.YtmecikeaogjmpaaDoor


namespace Go.Proofs.YtmecikeaogjmpaaDoor
open Go.RowKit

abbrev Wr := List V3 × Bool × Nat
def zw : Wr := ([], false, 0)
def wrents (t : TypeId) (f : Nat → Option Addr × Nat) (ws : List Wr) : List Ent := (List.range ws.length).map fun i => ⟨(f i).1, vl (ws.getD i zw).1, (f i).2 * 3, t⟩
theorem wrents_mem {t : TypeId} {f : Nat → Option Addr × Nat} {ws : List Wr} {i : Nat} (h : i < ws.length) : (⟨(f i).1, vl (ws.getD i zw).1, (f i).2 * 3, t⟩ : Ent) ∈ wrents t f ws := by
  unfold wrents
  exact List.mem_map.2 ⟨i, by simpa using h, rfl⟩
/-- Each wire's points lie where its header says. -/
def WRws (w : World) (f : Nat → Option Addr × Nat) (ws : List Wr) : Prop := ∀ i, i < ws.length → Cl w (f i).1 (vl (ws.getD i zw).1)
theorem WRws.below {w w' : World} {f : Nat → Option Addr × Nat} {ws : List Wr} (h : WRws w f ws) (hb : Below w.heap.size w w') : WRws w' f ws := fun i hi => (h i hi).below hb
theorem WRws.root {w0 w : World} {O : List Ent} {f : Nat → Option Addr × Nat} {ws : List Wr} (h : WRws w0 f ws) (hw : Hp w0 O w) : WRws w f ws := h.below hw.below
inductive WRowsIn : List Ent → TypeId → (Nat → Option Addr × Nat) → List Wr → Prop
  | here {t : TypeId} {f : Nat → Option Addr × Nat} {ws : List Wr} {O : List Ent} : WRowsIn (wrents t f ws ++ O) t f ws
  | last {t : TypeId} {f : Nat → Option Addr × Nat} {ws : List Wr} : WRowsIn (wrents t f ws) t f ws
  | there {t : TypeId} {f : Nat → Option Addr × Nat} {ws : List Wr} {e : Ent} {O : List Ent} : WRowsIn O t f ws → WRowsIn (e :: O) t f ws
  | thereS {t : TypeId} {f : Nat → Option Addr × Nat} {ws : List Wr} {S O : List Ent} : WRowsIn O t f ws → WRowsIn (S ++ O) t f ws
theorem WRowsIn.mem {O : List Ent} {t : TypeId} {f : Nat → Option Addr × Nat} {ws : List Wr} (h : WRowsIn O t f ws) : ∀ i, i < ws.length → (⟨(f i).1, vl (ws.getD i zw).1, (f i).2 * 3, t⟩ : Ent) ∈ O := by
  induction h with
  | here => exact fun i hi => List.mem_append_left _ (wrents_mem hi)
  | last => exact fun i hi => wrents_mem hi
  | there _ ih => exact fun i hi => List.mem_cons_of_mem _ (ih i hi)
  | thereS _ ih => exact fun i hi => List.mem_append_right _ (ih i hi)
theorem WRws.own {w0 w : World} {O : List Ent} {t : TypeId} {f : Nat → Option Addr × Nat} {ws : List Wr} (h : WRowsIn O t f ws) (hw : Hp w0 O w) : WRws w f ws := fun i hi => Sees.own (h.mem i hi) w hw
def Cans3 (vs : List V3) : Prop := ∀ v ∈ vs, Can3 v
theorem Cans3.row {vs : List V3} (h : Cans3 vs) {k : Nat} (hk : k < vs.length) : Can3 (vs.getD k z3) := h _ (by simp [hk])
def CansW (ws : List Wr) : Prop := ∀ w ∈ ws, Cans3 w.1 ∧ Can .f32 w.2.2
theorem CansW.row {ws : List Wr} (h : CansW ws) {k : Nat} (hk : k < ws.length) : Cans3 (ws.getD k zw).1 ∧ Can .f32 (ws.getD k zw).2.2 := h _ (by simp [hk])
section
variable {P : Program} {n : Nat} {w0 : World} {O : List Ent} {E : Env} {o : Oper}
end

/-! ### sizes -/
/-! ### what is valid -/
section
variable {ps : List V3} {cl : Bool} {cur : Nat}
end
/-! ### the field -/
end Go.Proofs.YtmecikeaogjmpaaDoor


namespace Go.Proofs.YtmecikeaogjmpaaDoor
open Go.RowKit

theorem tmod_nat (i n : Nat) : ((i : Int) + 1).tmod (n : Int) = (((i + 1) % n : Nat) : Int) := by
  rw [show ((i : Int) + 1) = ((i + 1 : Nat) : Int) by omega]
  exact (Int.ofNat_tmod _ _).symm
section
variable {P : Program} {n : Nat} {w0 : World} {O : List Ent} {E : Env} {o : Oper}
end
end Go.Proofs.YtmecikeaogjmpaaDoor


namespace Go.Proofs.YtmecikeaogjmpaaDoor
open Go.RowKit

section
variable {x : Nat} {ok : Bool} {s : Nat × Nat × Bool}
end
section
variable {ws : List Wr} {vs : List V3} {way : V3}
end
end Go.Proofs.YtmecikeaogjmpaaDoor


namespace Go.Proofs.YtmecikeaogjmpaaDoor
open Go.RowKit

section
variable {wi hi de : Int} {f : V3} {st n : Nat}
end

/-! ### nodes in order -/
section
variable {W H D x y z j : Nat}
end

section
variable {P : Program} {n : Nat} {w0 : World} {O : List Ent} {E : Env} {o : Oper}
theorem yr_addN {t ty : TypeId} {x y : Operand} {a b : Int} (r : Nat) (ho : o.op = .binOp .add t x y ty) (hx : E.opd x = some (.int .i64 a)) (hy : E.opd y = some (.int .i64 b)) (h : a + b = (r : Int)) (hb : r ≤ 9223372036854775807) : YR P E o (.int .i64 (r : Int)) := by
  rw [← h]
  exact yr_int ho hx hy (.inl ⟨rfl, wrap_in (by omega)⟩)
theorem Pick.e4 {O1 O2 O3 F : List Ent} {e1 e2 e3 e4 : Ent} (h1 : Rem O [e1] O1) (h2 : Rem O1 [e2] O2) (h3 : Rem O2 [e3] O3) (h4 : Rem O3 [e4] F) : Pick O [e1, e2, e3, e4] F := Pick.take h1 (Pick.take h2 (Pick.take h3 (Pick.take h4 .nil)))
end

/-! ### places, values -/
section
variable {vs : List V3} {W H D tw x y z j k a b : Nat}
end
section
variable {f : V3} {st : Nat} {wi hi de : Int} {vs : List V3}
end
end Go.Proofs.YtmecikeaogjmpaaDoor


namespace Go.Proofs.YtmecikeaogjmpaaDoor
open Go.RowKit

section
variable {ws : List Wr} {p m : V3} {st : Nat}
end

/-! ### the checked step -/
section
variable {ws : List Wr} {p m : V3} {st : Nat}
end
end Go.Proofs.YtmecikeaogjmpaaDoor


namespace Go.Proofs.YtmecikeaogjmpaaDoor
open Go.RowKit

end Go.Proofs.YtmecikeaogjmpaaDoor


namespace Go.Proofs.YtmecikeaogjmpaaDoor
open Go.RowKit

section
variable {ws : List Wr} {f : V3} {st W H D x y z k : Nat} {wi hi de : Int}
theorem tmodN (a b : Nat) : ((a : Int)).tmod (b : Int) = ((a % b : Nat) : Int) := (Int.ofNat_tmod _ _).symm
theorem tdivN (a b : Nat) : ((a : Int)).tdiv (b : Int) = ((a / b : Nat) : Int) := (Int.ofNat_tdiv _ _).symm
end
section
variable {P : Program} {E : Env} {o : Oper}
theorem yr_remN {t ty : TypeId} {x y : Operand} {p q : Int} (a b : Nat) (ho : o.op = .binOp .rem t x y ty) (hx : E.opd x = some (.int .i64 p)) (hy : E.opd y = some (.int .i64 q)) (hp : p = (a : Int)) (hq : q = (b : Int)) (hb : 0 < b) : YR P E o (.int .i64 ((a % b : Nat) : Int)) := by
  subst hp; subst hq
  have h := yr_rem (P := P) ho hx hy (by omega)
  rwa [tmodN] at h
theorem yr_quoN {t ty : TypeId} {x y : Operand} {p q : Int} (a b : Nat) (ho : o.op = .binOp .quo t x y ty) (hx : E.opd x = some (.int .i64 p)) (hy : E.opd y = some (.int .i64 q)) (hp : p = (a : Int)) (hq : q = (b : Int)) (hb : 0 < b) (ha : a ≤ 9223372036854775807) : YR P E o (.int .i64 ((a / b : Nat) : Int)) := by
  subst hp; subst hq
  have h := yr_quo (P := P) ho hx hy (by omega) (wrap_quo (by omega))
  rwa [tdivN] at h
end
section
variable {ws : List Wr} {f : V3} {st W H D : Nat} {wi hi de n : Int}
end
end Go.Proofs.YtmecikeaogjmpaaDoor


namespace Go.Proofs.YtmecikeaogjmpaaDoor
open Go.RowKit Go.Lib
section
variable {P : Program} {w0 : World} {O : List Ent} {E : Env} {o : Oper}
theorem yr_strAdd {t ty : TypeId} {x y : Operand} {a b c : ByteArray} (ho : o.op = .binOp .add t x y ty) (hx : E.opd x = some (.string a)) (hy : E.opd y = some (.string b)) (h : a.size + b.size ≤ 9223372036854775807) (hc : a ++ b = c) : YR P E o (.string c) := yr_of fun ρ w hE => by
  have h1 := cn_string (hE.get (x := x) (by simp [ho, Op.operands]) hx)
  have h2 := cn_string (hE.get (x := y) (by simp [ho, Op.operands]) hy)
  subst hc
  refine ⟨.string (a ++ b), ?_, rfl⟩
  have h3 : ¬ (((a.size + b.size : Nat) : Int) > IntKind.i64.max) := by
    have : IntKind.i64.max = 9223372036854775807 := by decide
    omega
  have hs : (Op.stringOp .add a b).run P w = .ok (.string (a ++ b)) w := by
    unfold Op.stringOp
    simp only
    rw [if_neg h3]; rfl
  simp [execOp, ho, h1, h2, eqGuard, binOp, hs]
end
theorem tab_keep {P : Program} {w w' : World} {name : String} {k : IntKind} {zs : List Int} (h : TabIs P w name k zs) (hb : Below w.heap.size w w') : TabIs P w' name k zs := by
  unfold TabIs World.var? at *
  cases hg : P.globalNamed name with
  | none => rw [hg] at h; cases h
  | some g =>
    rw [hg] at h
    have hlt : g < w.heap.size := by
      rcases Nat.lt_or_ge g w.heap.size with h1 | h1
      · exact h1
      · simp [Array.getElem?_eq_none h1] at h
    have := hb.block g hlt
    simp only [Option.bind_some] at h ⊢
    rw [this]
    exact h
/-! ### decimals -/
def dN (u : Nat) : List Int := (decDigits u).map fun b => (b.toNat : Int)
theorem dN_small {u : Nat} (h : u < 10) : dN u = [((48 + u : Nat) : Int)] := by
  unfold dN
  rw [decDigits, dif_pos h]
  simp only [List.map_cons, List.map_nil, UInt8.toNat_ofNat', List.cons.injEq, and_true]
  omega
theorem dN_big {u : Nat} (h : ¬ u < 10) : dN u = dN (u / 10) ++ [((48 + u % 10 : Nat) : Int)] := by
  unfold dN
  rw [decDigits, dif_neg h]
  simp only [List.map_append, List.map_cons, List.map_nil, UInt8.toNat_ofNat']
  congr 2
  omega
theorem dN_len : ∀ (k u : Nat), u ≤ k → (dN u).length ≤ u + 1
  | k, u, hk => by
    by_cases h : u < 10
    · rw [dN_small h]; simp
    · rw [dN_big h, List.length_append, List.length_singleton]
      cases k with
      | zero => omega
      | succ k => have := dN_len k (u / 10) (by omega); omega
theorem stb_dN (u : Nat) : stb (dN u) = ⟨(decDigits u).toArray⟩ := by
  unfold stb dN
  rw [List.map_map]
  congr 2
  have : ∀ l : List UInt8, l.map ((fun n : Int => UInt8.ofNat n.toNat) ∘ fun b : UInt8 => (b.toNat : Int)) = l := by
    intro l
    induction l with
    | nil => rfl
    | cons x l ih => rw [List.map_cons, ih]; simp
  exact this _
theorem stb_append (a b : List Int) : stb a ++ stb b = stb (a ++ b) := by
  apply ByteArray.ext
  simp [stb]
def DecI (n v : Nat) (t : List Int) : Prop := ((v ≠ 0 ∨ t.length = 0) ∧ dN v ++ t = dN n) ∨ (v = 0 ∧ t.length ≠ 0 ∧ t = dN n)
theorem decI_0 (n : Nat) : DecI n n [] := .inl ⟨.inr rfl, by simp⟩
theorem decI_step {n v : Nat} {t : List Int} (h : DecI n v t) (hc : t.length = 0 ∨ v ≠ 0) : DecI n (v / 10) (((48 + v % 10 : Nat) : Int) :: t) := by
  rcases h with ⟨_, h2⟩ | ⟨h1, h2, _⟩
  · by_cases hv : v < 10
    · refine .inr ⟨by omega, by simp, ?_⟩
      rw [dN_small hv] at h2
      rw [← h2, Nat.mod_eq_of_lt hv]; rfl
    · refine .inl ⟨.inl (by omega), ?_⟩
      rw [dN_big hv, List.append_assoc] at h2
      exact h2
  · omega
theorem decI_end {n : Nat} {t : List Int} (h : DecI n 0 t) (ht : t.length ≠ 0) : t = dN n := by
  rcases h with ⟨h1, _⟩ | ⟨_, _, h3⟩
  · omega
  · exact h3
theorem decI_len {n v : Nat} {t : List Int} (h : DecI n v t) : t.length ≤ n + 1 := by
  have h9 := dN_len n n (Nat.le_refl _)
  rcases h with ⟨_, h2⟩ | ⟨_, _, h2⟩
  · have := congrArg List.length h2
    rw [List.length_append] at this
    omega
  · rw [h2]; exact h9
/-! ### marks -/
def mt (n : Nat) : ByteArray := if n = 0 then ⟨#[109, 48]⟩ else stb (109 :: dN n)
theorem mt_0 : mt 0 = ⟨#[109, 48]⟩ := rfl
theorem mt_s {n : Nat} (h : n ≠ 0) : stb (109 :: dN n) = mt n := (if_neg h).symm
def mts (k n : Nat) : List ByteArray := (List.range n).map fun i => mt (k + i)
theorem mts_length (k n : Nat) : (mts k n).length = n := by simp [mts]
theorem mts_get {k n i : Nat} (h : i < n) : (mts k n).getD i emB = mt (k + i) := by simp [mts, h]
theorem take_mts {ys : List ByteArray} {k n i : Nat} (hl : ys.length = n) (ht : ys.take i = mts k i) (hi : i < n) : (ys.set i (mt (k + i))).take (i + 1) = mts k (i + 1) := by
  apply List.ext_getElem?
  intro j
  have hj := congrArg (·[j]?) ht
  simp only [mts, List.getElem?_take, List.getElem?_map] at hj ⊢
  by_cases h1 : j < i
  · rw [if_pos h1, List.getElem?_range h1] at hj
    rw [if_pos (by omega), List.getElem?_set_ne (by omega), hj, List.getElem?_range (by omega)]
  · by_cases h2 : j = i
    · subst h2
      rw [if_pos (by omega), List.getElem?_set_self (by omega), List.getElem?_range (by omega)]; rfl
    · rw [if_neg (by omega), List.getElem?_eq_none (by simp; omega)]; rfl
theorem mts_all {ys : List ByteArray} {k n i : Nat} (hl : ys.length = n) (ht : ys.take i = mts k i) (hi : n ≤ i) (hi' : i ≤ n) : ys = mts k n := by
  have e : i = n := Nat.le_antisymm hi' hi
  subst e
  rwa [List.take_of_length_le (by omega)] at ht
theorem sx_set (ss : List ByteArray) (i : Nat) (x : ByteArray) : setAt (sx ss) i [.string x] = sx (ss.set i x) := by
  show (sx ss).set i (.string x) = _
  simp [sx, List.map_set]
/-! ### checks -/
def chkK (c : Nat) (s : ByteArray) : Nat → Nat
  | 0 => c
  | k + 1 => (739 * chkK c s k + sb s k + 67) % 65003
theorem chkK_lt {c : Nat} {s : ByteArray} (h : c < 65003) : ∀ k, chkK c s k < 65003
  | 0 => h
  | k + 1 => Nat.mod_lt _ (by decide)
def chk (c : Nat) (s : ByteArray) : Nat := chkK c s s.size
theorem chk_lt {c : Nat} {s : ByteArray} (h : c < 65003) : chk c s < 65003 := chkK_lt h _
def dec (n : Nat) : ByteArray := stb (dN n)
theorem itoa_dec (n : Nat) : (⟨(itoa (n : Int)).toArray⟩ : ByteArray) = dec n := by
  unfold itoa dec
  rw [if_neg (by omega), Int.toNat_natCast, stb_dN]
/-! ### a line: a number, a space, a text -/
def num (l : ByteArray) : ByteArray := ⟨(cut l.data.toList [32]).1.toArray⟩
def txt (l : ByteArray) : ByteArray := ⟨(cut l.data.toList [32]).2.1.toArray⟩
def fnd (l : ByteArray) : Bool := (cut l.data.toList [32]).2.2
def good (l : ByteArray) (c : Nat) : Bool := fnd l && scmp .eql (num l) (dec (chk c (txt l)))
def go : List ByteArray → Nat → List ByteArray → Nat → List ByteArray × Nat
  | [], _, out, n => (out, n)
  | l :: ls, c, out, n => if good l c then go ls (chk c (txt l)) (out ++ [txt l]) (n + l.size + 1) else (out, n)
def recO (s : ByteArray) : List ByteArray := (go ((lnB s).take ((lnB s).length - 1)) 0 [] 0).1
def recN (s : ByteArray) : Nat := (go ((lnB s).take ((lnB s).length - 1)) 0 [] 0).2
theorem mem_at {l : ByteArray} (h : (32 : UInt8) ∈ l.data.toList) : ∃ j, j < l.size ∧ sb l j = 32 := by
  obtain ⟨j, hj, e⟩ := List.getElem_of_mem h
  refine ⟨j, by rw [size_eq]; exact hj, ?_⟩
  unfold sb
  rw [Array.getElem?_eq_getElem (by simpa using hj), Option.getD_some, ← Array.getElem_toList, e]; rfl
theorem sp0 {l : ByteArray} (h : ∀ j, j < l.size → sb l j ≠ 32) : fnd l = false := by
  unfold fnd cut
  have hn : indexByte l.data.toList 32 = -1 := by
    by_cases h1 : indexByte l.data.toList 32 = -1
    · exact h1
    · have hge := indexByte_ge l.data.toList 32
      obtain ⟨i, hi⟩ : ∃ i : Nat, indexByte l.data.toList 32 = i := ⟨(indexByte l.data.toList 32).toNat, by omega⟩
      obtain ⟨p, r, e, _, _⟩ := index_parts hi
      obtain ⟨j, hj, hb⟩ := mem_at (l := l) (by rw [e]; simp)
      exact absurd hb (h j hj)
  rw [index_one, hn]
  rfl
theorem extract_all {s : ByteArray} {l : Nat} : (s.extract l s.size).data.toList = s.data.toList.drop l := by
  rw [extract_data, List.take_of_length_le]
  rw [List.length_drop, ← size_eq]; omega
theorem ext_list {a b : ByteArray} (h : a.data.toList = b.data.toList) : a = b := ByteArray.ext (Array.toList_inj.1 h)
theorem spm {l : ByteArray} {m : Nat} (h : ∀ j, j < m → sb l j ≠ 32) (hm : m < l.size) (hb : sb l m = 32) : num l = l.extract 0 m ∧ txt l = l.extract (m + 1) l.size ∧ fnd l = true := by
  obtain ⟨b, e1, e2⟩ := list_at hm
  have e3 : b = 32 := UInt8.toNat_inj.1 (by rw [← e2, hb]; rfl)
  subst e3
  have e4 : l.data.toList = l.data.toList.take m ++ (32 : UInt8) :: l.data.toList.drop (m + 1) := by rw [← e1, List.take_append_drop]
  have hx : indexByte l.data.toList 32 = m := by
    have h0 : indexByte l.data.toList 32 ≠ -1 := fun e => absurd (by rw [e4]; simp : (32 : UInt8) ∈ l.data.toList) (index_none e)
    have hge := indexByte_ge l.data.toList 32
    obtain ⟨i, hi⟩ : ∃ i : Nat, indexByte l.data.toList 32 = i := ⟨(indexByte l.data.toList 32).toNat, by omega⟩
    obtain ⟨p, r, e, hl, hp⟩ := index_parts hi
    have hil : i < l.size := by rw [size_eq, e]; simp; omega
    obtain ⟨b, f1, f2⟩ := list_at hil
    have f3 : b = 32 := by
      have : l.data.toList.drop i = 32 :: r := by rw [e, ← hl]; simp
      rw [f1] at this
      exact (List.cons.inj this).1
    have hge2 : ¬ i < m := fun hlt => h i hlt (by rw [f2, f3]; rfl)
    have hle : ¬ m < i := fun hlt => by
      have g1 : l.data.toList[m]? = p[m]? := by rw [e, List.getElem?_append_left (by omega)]
      have g2 : l.data.toList[m]? = some 32 := by
        have := congrArg List.head? e1
        rw [List.head?_drop] at this
        simpa using this
      rw [g2] at g1
      exact hp (List.mem_of_getElem? g1.symm)
    rw [hi]
    have : i = m := by omega
    rw [this]
  unfold num txt fnd cut
  rw [index_one, hx, if_pos (by omega)]
  refine ⟨ext_list ?_, ext_list ?_, rfl⟩
  · rw [extract_data]; simp
  · rw [extract_all]; simp
theorem cut_size {c : UInt8} : ∀ {l : List UInt8} {x : List UInt8}, x ∈ cutL c l → x.length ≤ l.length
  | [], x, h => by simp [cutL] at h; simp [h]
  | y :: l, x, h => by
    rw [cutL] at h
    split at h
    · rcases List.mem_cons.1 h with rfl | h
      · simp
      · have := cut_size h; simp; omega
    · split at h
      · rename_i p ps he
        rcases List.mem_cons.1 h with rfl | h
        · have := cut_size (c := c) (l := l) (x := p) (by rw [he]; simp); simp; omega
        · have := cut_size (c := c) (l := l) (x := x) (by rw [he]; simp [h]); simp; omega
      · rcases List.mem_cons.1 h with rfl | h
        · simp
        · cases h
theorem lnB_size {s : ByteArray} {k : Nat} : ((lnB s).getD k emB).size ≤ s.size := by
  rw [List.getD_eq_getElem?_getD]
  cases h : (lnB s)[k]? with
  | none => exact Nat.zero_le _
  | some x =>
    have hm := List.mem_of_getElem? h
    obtain ⟨l, hl, rfl⟩ := List.mem_map.1 hm
    have := cut_size hl
    rw [size_eq s]
    exact this
theorem take_drop {ss : List ByteArray} {k n : Nat} (h : k < n) (hn : n ≤ ss.length) : (ss.take n).drop k = ss.getD k emB :: (ss.take n).drop (k + 1) := by
  rw [List.drop_eq_getElem_cons (by rw [List.length_take]; omega)]
  congr 1
  rw [List.getElem_take, List.getD_eq_getElem?_getD, List.getElem?_eq_getElem (by omega)]; rfl
theorem go_yes {l : ByteArray} {ls out : List ByteArray} {c n : Nat} (h : good l c = true) : go (l :: ls) c out n = go ls (chk c (txt l)) (out ++ [txt l]) (n + l.size + 1) := if_pos h
theorem go_no {l : ByteArray} {ls out : List ByteArray} {c n : Nat} (h : good l c = false) : go (l :: ls) c out n = (out, n) := if_neg (by rw [h]; decide)
def GoI (s : ByteArray) (i c : Nat) (out : List ByteArray) (n : Nat) : Prop := go (((lnB s).take ((lnB s).length - 1)).drop i) c out n = (recO s, recN s)
theorem goI_0 (s : ByteArray) : GoI s 0 0 [] 0 := by unfold GoI recO recN; rfl
theorem goI_end {s : ByteArray} {i c n : Nat} {out : List ByteArray} (h : GoI s i c out n) (hi : (lnB s).length - 1 ≤ i) : out = recO s ∧ n = recN s := by
  unfold GoI at h
  rw [List.drop_eq_nil_of_le (by rw [List.length_take]; omega)] at h
  exact Prod.mk.inj h
theorem goI_bad {s : ByteArray} {i c n : Nat} {out : List ByteArray} (h : GoI s i c out n) (hi : i < (lnB s).length - 1) (hg : good ((lnB s).getD i emB) c = false) : out = recO s ∧ n = recN s := by
  unfold GoI at h
  rw [take_drop hi (by omega), go_no hg] at h
  exact Prod.mk.inj h
theorem goI_step {s : ByteArray} {i c n : Nat} {out : List ByteArray} (h : GoI s i c out n) (hi : i < (lnB s).length - 1) (hg : good ((lnB s).getD i emB) c = true) : GoI s (i + 1) (chk c (txt ((lnB s).getD i emB))) (out ++ [txt ((lnB s).getD i emB)]) (n + ((lnB s).getD i emB).size + 1) := by
  unfold GoI at h ⊢
  rw [take_drop hi (by omega), go_yes hg] at h
  exact h
/-! ### the same from a place in the text on -/
def GoB (s : ByteArray) (b c : Nat) (out : List ByteArray) : Prop := go ((lnB (s.extract b s.size)).take ((lnB (s.extract b s.size)).length - 1)) c out b = (recO s, recN s)
theorem extract_0 (s : ByteArray) : s.extract 0 s.size = s := ext_list (by rw [extract_all]; rfl)
theorem goB_0 (s : ByteArray) : GoB s 0 0 [] := by
  unfold GoB recO recN
  rw [extract_0]
theorem goB_end {s : ByteArray} {b c : Nat} {out : List ByteArray} (h : GoB s b c out) (hi : indexByte (s.extract b s.size).data.toList 10 < 0) : out = recO s ∧ b = recN s := by
  have hge := indexByte_ge (s.extract b s.size).data.toList 10
  have e : lnB (s.extract b s.size) = [s.extract b s.size] := by
    unfold lnB
    rw [cutL_miss (index_none (by omega))]; rfl
  unfold GoB at h
  rw [e] at h
  exact Prod.mk.inj h
theorem goB_cut {s : ByteArray} {b i : Nat} (hb : b ≤ s.size) (hi : indexByte (s.extract b s.size).data.toList 10 = i) : b + i + 1 ≤ s.size ∧ lnB (s.extract b s.size) = s.extract b (b + i) :: lnB (s.extract (b + i + 1) s.size) := by
  obtain ⟨p, r, e, hl, hp⟩ := index_parts hi
  rw [extract_all] at e
  have h1 := congrArg List.length e
  rw [List.length_drop, ← size_eq, List.length_append, List.length_cons] at h1
  have h2 : b + i + 1 ≤ s.size := by omega
  refine ⟨h2, ?_⟩
  have hr : s.data.toList.drop (b + i + 1) = r := by
    rw [show b + i + 1 = b + (i + 1) by omega, ← List.drop_drop, e, List.drop_append, List.drop_eq_nil_of_le (by omega), show i + 1 - p.length = 1 by omega]; rfl
  have hq : (s.extract b (b + i)) = ⟨p.toArray⟩ := ext_list (by rw [extract_data, e, show b + i - b = p.length by omega]; simp)
  unfold lnB
  rw [extract_all, extract_all, e, cutL_hit hp, hr, hq]; rfl
theorem goB_bad {s : ByteArray} {b c i : Nat} {out : List ByteArray} (h : GoB s b c out) (hb : b ≤ s.size) (hi : indexByte (s.extract b s.size).data.toList 10 = i) (hg : good (s.extract b (b + i)) c = false) : out = recO s ∧ b = recN s := by
  obtain ⟨h1, h2⟩ := goB_cut hb hi
  unfold GoB at h
  have h3 := lnB_len (s.extract (b + i + 1) s.size)
  rw [h2, List.length_cons, Nat.add_sub_cancel, show (lnB (s.extract (b + i + 1) s.size)).length = ((lnB (s.extract (b + i + 1) s.size)).length - 1) + 1 by omega, List.take_succ_cons, go_no hg] at h
  exact Prod.mk.inj h
theorem goB_step {s : ByteArray} {b c i : Nat} {out : List ByteArray} (h : GoB s b c out) (hb : b ≤ s.size) (hi : indexByte (s.extract b s.size).data.toList 10 = i) (hg : good (s.extract b (b + i)) c = true) : GoB s (b + i + 1) (chk c (txt (s.extract b (b + i)))) (out ++ [txt (s.extract b (b + i))]) := by
  obtain ⟨h1, h2⟩ := goB_cut hb hi
  unfold GoB at h ⊢
  have h3 := lnB_len (s.extract (b + i + 1) s.size)
  rw [h2, List.length_cons, Nat.add_sub_cancel, show (lnB (s.extract (b + i + 1) s.size)).length = ((lnB (s.extract (b + i + 1) s.size)).length - 1) + 1 by omega, List.take_succ_cons, go_yes hg, extract_size (by omega), show b + (b + i - b) + 1 = b + i + 1 by omega] at h
  exact h
theorem u8_nat {a : Nat} (h : a < 256) : IntKind.u8.wrap (a : Int) = (a : Int) := by
  unfold IntKind.wrap
  simp [IntKind.signed, IntKind.bits]
  omega
theorem mts_at {k n i : Nat} (h : i < n) : (sx (mts k n))[i]? = some (.string (mt (k + i))) := by
  rw [sx_get (by rw [mts_length]; exact h), mts_get h]
theorem txt_size (l : ByteArray) : (txt l).size ≤ l.size := by
  unfold txt cut
  rw [size_eq l]
  split
  · show (List.drop _ l.data.toList).toArray.size ≤ _
    simp
  · exact Nat.zero_le _
theorem good_n1 {l : ByteArray} {c : Nat} (h : fnd l = false) : good l c = false := by unfold good; rw [h, Bool.false_and]
theorem good_n2 {l : ByteArray} {c : Nat} (h : scmp .neq (num l) (dec (chk c (txt l))) = true) : good l c = false := by
  rw [neq_eql] at h
  unfold good
  rw [show scmp .eql (num l) (dec (chk c (txt l))) = false by simpa using h, Bool.and_false]
theorem good_y {l : ByteArray} {c : Nat} (h1 : fnd l = true) (h : scmp .neq (num l) (dec (chk c (txt l))) = false) : good l c = true := by
  rw [neq_eql] at h
  unfold good
  rw [show scmp .eql (num l) (dec (chk c (txt l))) = true by simpa using h, h1]; rfl
theorem go_len : ∀ (ls : List ByteArray) (c : Nat) (out : List ByteArray) (n : Nat), (go ls c out n).1.length ≤ out.length + ls.length
  | [], _, _, _ => Nat.le_refl _
  | l :: ls, c, out, n => by
    cases h : good l c with
    | true =>
      rw [go_yes h]
      have := go_len ls (chk c (txt l)) (out ++ [txt l]) (n + l.size + 1)
      rw [List.length_append, List.length_singleton] at this
      rw [List.length_cons]; omega
    | false => rw [go_no h]; exact Nat.le_add_right _ _
theorem recO_len (s : ByteArray) : (recO s).length ≤ s.size := by
  have h := go_len ((lnB s).take ((lnB s).length - 1)) 0 [] 0
  have h2 := lnB_le s
  unfold recO
  rw [List.length_nil, List.length_take] at h
  omega
def rO (s : ByteArray) : List ByteArray := if s.size ≤ 12000 then recO s else []
def rN (s : ByteArray) : Nat := if s.size ≤ 12000 then recN s else 0
def rB (s : ByteArray) : Bool := decide (s.size ≤ 12000)
theorem rO_len (s : ByteArray) : (rO s).length ≤ 12000 := by
  have := recO_len s
  unfold rO
  split
  · omega
  · simp
theorem r_yes {s : ByteArray} (h : s.size ≤ 12000) : rO s = recO s ∧ rN s = recN s ∧ rB s = true := ⟨if_pos h, if_pos h, decide_eq_true h⟩
theorem r_no {s : ByteArray} (h : ¬ s.size ≤ 12000) : rO s = [] ∧ rN s = 0 ∧ rB s = false := ⟨if_neg h, if_neg h, decide_eq_false h⟩
theorem int_args2 {vs : Array Value} {k k2 : IntKind} {a b : Int} (h : vs.toList.map cn = [.int k a, .int k2 b]) : vs = #[.int k a, .int k2 b] := by
  obtain ⟨l⟩ := vs
  match l, h with
  | [], h => simp at h
  | [_], h => simp at h
  | [x, y], h =>
    simp only [List.map_cons, List.map_nil, List.cons.injEq, and_true] at h
    rw [cn_int h.1, cn_int h.2]
  | _ :: _ :: _ :: _, h => simp at h
theorem str_int2 {vs : Array Value} {k2 : IntKind} {a : ByteArray} {b : Int} (h : vs.toList.map cn = [.string a, .int k2 b]) : vs = #[.string a, .int k2 b] := by
  obtain ⟨l⟩ := vs
  match l, h with
  | [], h => simp at h
  | [_], h => simp at h
  | [x, y], h =>
    simp only [List.map_cons, List.map_nil, List.cons.injEq, and_true] at h
    rw [cn_string h.1, cn_int h.2]
  | _ :: _ :: _ :: _, h => simp at h
theorem drewN_below {B : Nat} (w : World) (n : Nat) : Below B w (w.drewN n) := below_drewN (Below.refl _ _) n
theorem cut_tup (s : ByteArray) : cn (.tuple #[.string ⟨(cut s.data.toList (⟨#[32]⟩ : ByteArray).data.toList).1.toArray⟩, .string ⟨(cut s.data.toList (⟨#[32]⟩ : ByteArray).data.toList).2.1.toArray⟩, .bool (cut s.data.toList (⟨#[32]⟩ : ByteArray).data.toList).2.2]) = .tuple #[.string (num s), .string (txt s), .bool (fnd s)] := by
  unfold num txt fnd
  simp [cn, cn1, cn0]
theorem stb_nil : stb [] = ⟨#[]⟩ := rfl
theorem chkK_0 (c : Nat) (s : ByteArray) : chkK c s 0 = c := rfl
theorem chkK_s (c : Nat) (s : ByteArray) (k : Nat) : chkK c s (k + 1) = (739 * chkK c s k + sb s k + 67) % 65003 := rfl
theorem sp_end {l : ByteArray} {m c : Nat} (h : ∀ j, j < m → sb l j ≠ 32) (hm : m = l.size) : good l c = false := good_n1 (sp0 (by rw [← hm]; exact h))
theorem cat_m (t : List Int) : (⟨#[109]⟩ : ByteArray) ++ stb t = stb (109 :: t) := stb_append [109] t
theorem Hp.nilJ {w0 w : World} {O : List Ent} (h : Hp w0 O w) (t : TypeId) : Hp w0 (⟨none, [], 0, t⟩ :: O) w :=
  h.new (Below.refl _ _) (.inl ⟨rfl, rfl⟩)
end Go.Proofs.YtmecikeaogjmpaaDoor


namespace Go.Proofs.YtmecikeaogjmpaaDoor
open Go.RowKit
set_option linter.unusedVariables false
set_option linter.unusedSimpArgs false
set_option maxRecDepth 20000



end Go.Proofs.YtmecikeaogjmpaaDoor


namespace Go.Proofs.YtmecikeaogjmpaaDoor
open Go.RowKit
set_option linter.unusedVariables false
set_option linter.unusedSimpArgs false
set_option maxRecDepth 20000



theorem c_within {w : World} {n lo hi : Int} : Pure Tryd.prog 43 [.int .i64 n, .int .i64 lo, .int .i64 hi] w (.bool (decide (lo ≤ n ∧ n ≤ hi))) := by
  refine Pure.enter Tryd.func43 rfl Tryd.ntmps43 (Nat.le_of_ble_eq_true rfl) ?_
  refine V.seq ?_
  refine V.region ?_
  refine VL.r (.inl rfl) rfl (by decide) (yr_assign (u := .bool false) rfl rfl) ?_
  refine VL.nil ?_
  refine VE.then_wp ?_
  refine V.seq ?_
  refine V.region ?_
  refine VL.r (.inl rfl) rfl (by decide) (yr_move rfl rfl) ?_
  refine VL.r (.inl rfl) rfl (by decide) (yr_move rfl rfl) ?_
  refine VL.r (.inl rfl) rfl (by decide) (yr_icmp rfl (.inr (.inr (.inr (.inr (.inr rfl))))) rfl rfl) ?_
  refine VL.r (.inl rfl) rfl (by decide) (yr_move rfl rfl) ?_
  refine VX.split 10 _ rfl (fun h1 => ?_) (fun h1 => ?_)
  · skip
    replace h1 := ic_geq h1
    refine VL.r (.inr ⟨_, _, _, rfl, rfl, rfl⟩) rfl (by decide) (yr_move rfl rfl) ?_
    refine VL.r (.inr ⟨_, _, _, rfl, rfl, rfl⟩) rfl (by decide) (yr_move rfl rfl) ?_
    refine VL.r (.inr ⟨_, _, _, rfl, rfl, rfl⟩) rfl (by decide) (yr_icmp rfl (.inr (.inr (.inr (.inl rfl)))) rfl rfl) ?_
    refine VL.r (.inl rfl) rfl (by decide) (yr_pick_t rfl rfl rfl) ?_
    refine VL.r (.inl rfl) rfl (by decide) (yr_assign rfl rfl) ?_
    refine VL.nil ?_
    refine VE.then_wp ?_
    refine V.ret ?_
    refine ret1 rfl rfl (fun w1 hw => ?_)
    exact ⟨congrArg Value.bool (in_t (by assumption)), hw.below⟩
  · skip
    replace h1 := ic_geq' h1
    refine VL.no rfl rfl rfl rfl rfl (by decide) ?_
    refine VL.no rfl rfl rfl rfl rfl (by decide) ?_
    refine VL.no rfl rfl rfl rfl rfl (by decide) ?_
    refine VL.r (.inl rfl) rfl (by decide) (yr_pick_f (u := .bool false) rfl rfl rfl) ?_
    refine VL.r (.inl rfl) rfl (by decide) (yr_assign rfl rfl) ?_
    refine VL.nil ?_
    refine VE.then_wp ?_
    refine V.ret ?_
    refine ret1 rfl rfl (fun w1 hw => ?_)
    exact ⟨congrArg Value.bool (in_f (by assumption)), hw.below⟩

end Go.Proofs.YtmecikeaogjmpaaDoor

