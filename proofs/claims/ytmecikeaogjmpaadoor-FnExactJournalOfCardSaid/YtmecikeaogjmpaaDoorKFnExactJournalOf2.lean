/- Own texts of this claim, merged: Draw, WCo, In, Root, Vec, Wire, Field, Flat, Mesh, Line, FinA, Fill, Jour, WBase, WIn, WJr, Jo, WJo, Way, Bld, Ji, WJl, OpenS. -/
import Derived.KernelRfl
import Derived.Lib.ItoaNum
import Derived.Lib.IndexMore
import Derived.Lib.LaidTab
import Derived.Lib.CleanWalkFns
import Derived.Lib.AppendIntMem
import Derived.Laws.Strings
import Derived.Test.YtmecikeaogjmpaaDoorProg
import Derived.Shelf.Strings.Builder1
import Derived.Shelf.Strings.BuilderF
import Derived.Test.YtmecikeaogjmpaaDoorKFnExactJournalOf1
namespace Go.Proofs.YtmecikeaogjmpaaDoor
open Go.RowKit
namespace Dr

/-- What an operation makes whatever is there: by its place in the region. -/
abbrev Tab := List (Nat × ((Nat → Value) × (Nat → Ent)))
def Tab.get : Tab → Nat → (Nat → Value) × (Nat → Ent)
  | [], _ => (fun _ => undef, fun _ => ⟨none, [], 0, 0⟩)
  | (j, p) :: l, i => match Nat.beq j i with | true => p | false => Tab.get l i

section
variable {P : Program} {n : Nat} {w0 : World} {O R : List Ent} {T : Tab} {E : Env} {ops : Array Oper}

/-- Something new is made, whatever is there. -/
def YA (P : Program) (E : Env) (o : Oper) (u : Nat → Value) (e : Nat → Ent) : Prop :=
  ∀ ρ w, Ev E o.op ρ → ResOk P (fun v w' => ∃ b, cn v = u b ∧ Below w.heap.size w w' ∧ Ent.at w.heap.size w' (e b)) ((execOp ρ o).run P w)
theorem YA.of {o : Oper} {u : Nat → Value} {e : Nat → Ent} (h : ∀ w0, YN P w0 [] E o u (fun b => [e b])) : YA P E o u e := by
  intro ρ w hE
  refine (h w ρ w hE (Hp.refl w)).mono fun v w' ⟨b, h1, h2, h3, _⟩ => ⟨b, h1, h2, h3 _ List.mem_cons_self⟩
theorem YA.weaken {E' : Env} {o : Oper} {u : Nat → Value} {e : Nat → Ent} (h : YA P E o u e) (hE : ∀ x ∈ o.op.operands, E'.opd x = E.opd x) : YA P E' o u e :=
  fun ρ w hρ => h ρ w (fun x hx u hu => hρ x hx u (by rw [hE x hx]; exact hu))

/-- What an operation does: a value and what is owned then, for some x. -/
inductive Eff (P : Program) (w0 : World) (ops : Array Oper) (R : List Ent) : Kd → Oper → Env → List Ent → (X : Type) → (X → Value) → (X → List Ent) → Prop
  | skip {k : Kd} {o : Oper} {E : Env} {O : List Ent} : Guard ops E o false → Eff P w0 ops R k o E O Unit (fun _ => undef) (fun _ => O)
  | quiet {o : Oper} {E : Env} {O : List Ent} {u : Value} : Guard ops E o true → YQ P w0 (O ++ R) E o u → Eff P w0 ops R 0 o E O Unit (fun _ => u) (fun _ => O)
  | quietR {o : Oper} {E : Env} {O : List Ent} {u : Value} : Guard ops E o true → YQ P w0 R E o u → Eff P w0 ops R 5 o E O Unit (fun _ => u) (fun _ => O)
  | make {o : Oper} {E : Env} {O : List Ent} {X : Type} {u : X → Value} {N : X → List Ent} : Guard ops E o true → YN P w0 (O ++ R) E o u N → Eff P w0 ops R 1 o E O X u (fun x => N x ++ O)
  | turn {o : Oper} {E : Env} {O : List Ent} {X : Type} {u : X → Value} {O' : X → List Ent} : Guard ops E o true → YC P w0 (O ++ R) E o u (fun x => O' x ++ R) → Eff P w0 ops R 3 o E O X u O'

/-- One operation, and K behind it. -/
def Stp (P : Program) (n : Nat) (w0 : World) (ops : Array Oper) (T : Tab) (k : Kd) (i : Nat) (o : Oper) (E : Env) (O R : List Ent) (K : Env → List Ent → List Ent → Prop) : Prop :=
  if k = 2 then o.guard = none ∧ DOk n o ∧ YA P E o (T.get i).1 (T.get i).2 ∧ ∀ b, K (putE E o.dst ((T.get i).1 b)) ((T.get i).2 b :: O) R
  else if k = 4 then ∃ (X : Type) (u : X → Value) (O' : X → List Ent), Nonempty X ∧ Guard ops E o true ∧ YC P w0 (O ++ R) E o u O' ∧ DOk n o ∧ ∀ x, K (putE E o.dst (u x)) (O' x) []
  else ∃ (X : Type) (u : X → Value) (O' : X → List Ent), Nonempty X ∧ Eff P w0 ops R k o E O X u O' ∧ DOk n o ∧ ∀ x, K (putE E o.dst (u x)) (O' x) R

/-- The walk: the operations of π in this order. -/
def SW (P : Program) (n : Nat) (w0 : World) (ops : Array Oper) (T : Tab) (K : Env → List Ent → List Ent → Prop) : List (Nat × Kd) → Env → List Ent → List Ent → Prop
  | [], E, O, R => K E O R
  | (i, k) :: π, E, O, R => ∃ o, ops[i]? = some o ∧ Stp P n w0 ops T k i o E O R (SW P n w0 ops T K π)

/-- K does not look at the order of what is known. -/
def Lax3 (w0 : World) (K : Env → List Ent → List Ent → Prop) : Prop :=
  ∀ E E' O O' R, (∀ t, E'.get t = E.get t) → (∀ F w, Hp w0 (F ++ O') w → Hp w0 (F ++ O) w) → K E O R → K E' O' R

theorem frame {O' : List Ent} (h : ∀ F w, Hp w0 (F ++ O') w → Hp w0 (F ++ O) w) : ∀ F w, Hp w0 (F ++ (O' ++ R)) w → Hp w0 (F ++ (O ++ R)) w := by
  intro F w hw
  have h1 : (F ++ (O' ++ R)).Perm ((F ++ R) ++ O') := by
    rw [List.append_assoc]
    exact List.Perm.append_left F List.perm_append_comm
  have h2 : ((F ++ R) ++ O).Perm (F ++ (O ++ R)) := by
    rw [List.append_assoc]
    exact List.Perm.append_left F List.perm_append_comm
  exact (h (F ++ R) w (hw.perm' h1)).perm' h2

/-- The effect, seen from what says the same. -/
theorem Eff.lax {E' : Env} {O' : List Ent} {k : Kd} {o : Oper} {X : Type} {u : X → Value} {S : X → List Ent} (hE : ∀ t, E'.get t = E.get t) (hO : ∀ F w, Hp w0 (F ++ O') w → Hp w0 (F ++ O) w) (h : Eff P w0 ops R k o E O X u S) :
    ∃ S', Eff P w0 ops R k o E' O' X u S' ∧ ∀ x F w, Hp w0 (F ++ S' x) w → Hp w0 (F ++ S x) w := by
  have hop := opd_same hE
  cases h with
  | skip hg => exact ⟨_, .skip (hg.same fun t _ => hE t), fun _ => hO⟩
  | quiet hg h => exact ⟨_, .quiet (hg.same fun t _ => hE t) (h.weaken (fun x _ => hop x) (hp_nil (frame hO))), fun _ => hO⟩
  | quietR hg h => exact ⟨_, .quietR (hg.same fun t _ => hE t) (h.weaken (fun x _ => hop x) (fun _ h => h)), fun _ => hO⟩
  | make hg h => exact ⟨_, .make (hg.same fun t _ => hE t) (h.weaken (fun x _ => hop x) (hp_nil (frame hO))), fun x => Hp.perm hO⟩
  | turn hg h => exact ⟨_, .turn (hg.same fun t _ => hE t) (fun ρ w F hρ hw => h ρ w F (fun x hx u hu => hρ x hx u (by rw [hop x]; exact hu)) (frame hO F w hw)), fun _ _ _ h => h⟩

theorem Stp.lax {k : Kd} {i : Nat} {o : Oper} {K : Env → List Ent → List Ent → Prop} (hK : Lax3 w0 K) : Lax3 w0 (fun E O R => Stp P n w0 ops T k i o E O R K) := by
  intro E E' O O' R hE hO h
  simp only [Stp] at h ⊢
  split at h
  · rename_i hk
    rw [if_pos hk]
    exact ⟨h.1, h.2.1, h.2.2.1.weaken (fun x _ => opd_same hE x), fun b => hK _ _ _ _ _ (put_congr hE _ _) (fun F w => by simpa using Hp.perm (N := [(T.get i).2 b]) hO F w) (h.2.2.2 b)⟩
  · rename_i hk
    rw [if_neg hk]
    split at h
    · rename_i hk4
      rw [if_pos hk4]
      obtain ⟨X, u, S, h0, hg, h1, h2, h3⟩ := h
      exact ⟨X, u, S, h0, hg.same fun t _ => hE t, fun ρ w F hρ hw => h1 ρ w F (fun x hx u hu => hρ x hx u (by rw [opd_same hE x]; exact hu)) (frame hO F w hw), h2, fun x => hK _ _ _ _ _ (put_congr hE _ _) (fun _ _ h => h) (h3 x)⟩
    · rename_i hk4
      rw [if_neg hk4]
      obtain ⟨X, u, S, h0, h1, h2, h3⟩ := h
      obtain ⟨S', h4, h5⟩ := h1.lax hE hO
      exact ⟨X, u, S', h0, h4, h2, fun x => hK _ _ _ _ _ (put_congr hE _ _) (h5 x) (h3 x)⟩

theorem SW.lax {K : Env → List Ent → List Ent → Prop} (hK : Lax3 w0 K) : ∀ π, Lax3 w0 (SW P n w0 ops T K π)
  | [] => hK
  | (i, k) :: π => by
    intro E E' O O' R hE hO ⟨o, ho, h⟩
    exact ⟨o, ho, Stp.lax (SW.lax hK π) _ _ _ _ _ hE hO h⟩

/-- p is walked before q; may q be carried out before p? -/
def swapOk (ops : Array Oper) (kp kq : Kd) (p q : Oper) : Bool :=
  (match p.dst with | some d => !(q.looksAt ops).contains d && q.dst != some d | none => true) &&
  (match q.dst with | some d => !(p.looksAt ops).contains d | none => true) &&
  ((kp == 0 && (kq == 0 || kq == 1 || kq == 5)) || (kp == 5 && (kq == 0 || kq == 1 || kq == 3 || kq == 5)) || (kq == 2 && kp != 4))

theorem Eff.put {k : Kd} {o : Oper} {d : Option Nat} {u : Value} {X : Type} {v : X → Value} {S : X → List Ent} (h : ∀ x, d = some x → (o.looksAt ops).contains x = false) :
    Eff P w0 ops R k o (putE E d u) O X v S ↔ Eff P w0 ops R k o E O X v S := by
  constructor
  · intro he
    cases he with
    | skip hg => exact .skip ((guard_put h).1 hg)
    | quiet hg hy => exact .quiet ((guard_put h).1 hg) (hy.weaken (fun x hx => (opd_put h u x hx).symm) fun _ h => h)
    | quietR hg hy => exact .quietR ((guard_put h).1 hg) (hy.weaken (fun x hx => (opd_put h u x hx).symm) fun _ h => h)
    | make hg hy => exact .make ((guard_put h).1 hg) (hy.weaken (fun x hx => (opd_put h u x hx).symm) fun _ h => h)
    | turn hg hy => exact .turn ((guard_put h).1 hg) (fun ρ w F hρ hw => hy ρ w F (fun x hx v hv => hρ x hx v (by rw [← opd_put h u x hx]; exact hv)) hw)
  · intro he
    cases he with
    | skip hg => exact .skip ((guard_put h).2 hg)
    | quiet hg hy => exact .quiet ((guard_put h).2 hg) (hy.weaken (fun x hx => opd_put h u x hx) fun _ h => h)
    | quietR hg hy => exact .quietR ((guard_put h).2 hg) (hy.weaken (fun x hx => opd_put h u x hx) fun _ h => h)
    | make hg hy => exact .make ((guard_put h).2 hg) (hy.weaken (fun x hx => opd_put h u x hx) fun _ h => h)
    | turn hg hy => exact .turn ((guard_put h).2 hg) (fun ρ w F hρ hw => hy ρ w F (fun x hx v hv => hρ x hx v (by rw [opd_put h u x hx]; exact hv)) hw)

/-- .. with one entry more -/
theorem Eff.beside {k : Kd} {o : Oper} {e : Ent} {X : Type} {v : X → Value} {S : X → List Ent} (he : Eff P w0 ops R k o E O X v S) :
    ∃ S', Eff P w0 ops R k o E (e :: O) X v S' ∧ ∀ x F w, Hp w0 (F ++ S' x) w → Hp w0 (F ++ (e :: S x)) w := by
  have hsub : ∀ w, Hp w0 (e :: O ++ R) w → Hp w0 (O ++ R) w := fun w h => h.sub (List.sublist_cons_self e (O ++ R))
  cases he with
  | skip hg => exact ⟨_, .skip hg, fun _ _ _ h => h⟩
  | quiet hg hy => exact ⟨_, .quiet hg (hy.weaken (fun _ _ => rfl) hsub), fun _ _ _ h => h⟩
  | quietR hg hy => exact ⟨_, .quietR hg hy, fun _ _ _ h => h⟩
  | make hg hy =>
    exact ⟨_, .make hg (hy.weaken (fun _ _ => rfl) hsub), fun x F w h => swap_hp (N := _) (M := [e]) F w h⟩
  | turn hg hy =>
    refine ⟨fun x => e :: S x, .turn hg fun ρ w F hρ hw => ?_, fun _ _ _ h => h⟩
    have := hy ρ w (F ++ [e]) hρ (by simpa using hw)
    refine this.mono fun v w' ⟨x, h1, h2⟩ => ⟨x, h1, by simpa using h2⟩

theorem Stp.swap {kp kq : Kd} {ip iq : Nat} {p q : Oper} {K : Env → List Ent → List Ent → Prop} (hK : Lax3 w0 K) (hs : swapOk ops kp kq p q = true)
    (h : Stp P n w0 ops T kp ip p E O R (fun E O R => Stp P n w0 ops T kq iq q E O R K)) : Stp P n w0 ops T kq iq q E O R (fun E O R => Stp P n w0 ops T kp ip p E O R K) := by
  simp only [swapOk, Bool.and_eq_true, Bool.or_eq_true, beq_iff_eq, bne_iff_ne, ne_eq] at hs
  obtain ⟨⟨hs1, hs2⟩, hs3⟩ := hs
  have d1 : ∀ d, p.dst = some d → (q.looksAt ops).contains d = false := fun d hd => by rw [hd] at hs1; simpa using (Bool.and_eq_true_iff.1 hs1).1
  have d2 : ∀ d, p.dst = some d → q.dst ≠ some d := fun d hd => by rw [hd] at hs1; simpa using (Bool.and_eq_true_iff.1 hs1).2
  have d3 : ∀ d, q.dst = some d → (p.looksAt ops).contains d = false := fun d hd => by rw [hd] at hs2; simpa using hs2
  have hid : ∀ (O : List Ent) (F : List Ent) (w : World), Hp w0 (F ++ O) w → Hp w0 (F ++ O) w := fun _ _ _ h => h
  have hp4 : ¬ kp = 4 := by
    rcases hs3 with (⟨h1, _⟩ | ⟨h1, _⟩) | ⟨_, h2⟩
    · rw [h1]; decide
    · rw [h1]; decide
    · exact h2
  by_cases hq : kq = 2
  · subst hq
    simp only [Stp, if_true, if_neg hp4] at h ⊢
    split at h
    · rename_i hp
      have h0 := (h.2.2.2 0)
      refine ⟨h0.1, h0.2.1, h0.2.2.1.weaken (fun x hx => (opd_put d1 _ x hx).symm), fun b => ?_⟩
      rw [if_pos hp]
      refine ⟨h.1, h.2.1, h.2.2.1.weaken (fun x hx => opd_put d3 _ x hx), fun c => ?_⟩
      have h3 := (h.2.2.2 c).2.2.2 b
      refine hK _ _ _ _ _ (fun t => (put_swap d2 _ _ E t).symm) (fun F w hw => ?_) h3
      have := swap_hp (N := [(T.get ip).2 c]) (M := [(T.get iq).2 b]) (O := O) F w (by simpa using hw)
      simpa using this
    · rename_i hp
      obtain ⟨X, u, S, ⟨x0⟩, h1, h2, h3⟩ := h
      have h0 := h3 x0
      refine ⟨h0.1, h0.2.1, h0.2.2.1.weaken (fun x hx => (opd_put d1 _ x hx).symm), fun b => ?_⟩
      rw [if_neg hp]
      obtain ⟨S', h4, h5⟩ := h1.beside (e := (T.get iq).2 b)
      refine ⟨X, u, S', ⟨x0⟩, (Eff.put d3).2 h4, h2, fun x => ?_⟩
      exact hK _ _ _ _ _ (fun t => (put_swap d2 _ _ E t).symm) (h5 x) ((h3 x).2.2.2 b)
  · have h0 : (kp = 0 ∧ (kq = 0 ∨ kq = 1 ∨ kq = 5)) ∨ (kp = 5 ∧ (kq = 0 ∨ kq = 1 ∨ kq = 3 ∨ kq = 5)) := by
      rcases hs3 with (⟨h1, (h2 | h2) | h2⟩ | ⟨h1, ((h2 | h2) | h2) | h2⟩) | h2
      · exact .inl ⟨h1, .inl h2⟩
      · exact .inl ⟨h1, .inr (.inl h2)⟩
      · exact .inl ⟨h1, .inr (.inr h2)⟩
      · exact .inr ⟨h1, .inl h2⟩
      · exact .inr ⟨h1, .inr (.inl h2)⟩
      · exact .inr ⟨h1, .inr (.inr (.inl h2))⟩
      · exact .inr ⟨h1, .inr (.inr (.inr h2))⟩
      · exact absurd h2.1 hq
    have hp2 : ¬ kp = 2 := by rcases h0 with ⟨h, _⟩ | ⟨h, _⟩ <;> rw [h] <;> decide
    have hq4 : ¬ kq = 4 := by rcases h0 with ⟨_, h | h | h⟩ | ⟨_, h | h | h | h⟩ <;> rw [h] <;> decide
    simp only [Stp, if_neg hq, if_neg hp2, if_neg hp4, if_neg hq4] at h ⊢
    obtain ⟨X, u, S0, hX, h1, h2, h3⟩ := h
    -- the first is quiet, or does not come to its turn
    obtain ⟨u0, hu0, hp⟩ : ∃ u0, (∃ Y v S, Nonempty Y ∧ Eff P w0 ops R kq q (putE E p.dst u0) O Y v S ∧ DOk n q ∧ ∀ y, K (putE (putE E p.dst u0) q.dst (v y)) (S y) R) ∧
        ∀ E' O', (∀ x ∈ p.op.operands, E'.opd x = E.opd x) → (∀ g, Guard ops E p g → Guard ops E' p g) → (kp = 0 → ∀ w, Hp w0 (O' ++ R) w → Hp w0 (O ++ R) w) → Eff P w0 ops R kp p E' O' Unit (fun _ => u0) (fun _ => O') := by
      rcases h0 with ⟨rfl, _⟩ | ⟨rfl, _⟩
      · cases h1 with
        | skip hg => exact ⟨undef, h3 (), fun E' O' _ hg' _ => .skip (hg' _ hg)⟩
        | quiet hg hy => exact ⟨_, h3 (), fun E' O' hE hg' hO => .quiet (hg' _ hg) (hy.weaken hE (hO rfl))⟩
      · cases h1 with
        | skip hg => exact ⟨undef, h3 (), fun E' O' _ hg' _ => .skip (hg' _ hg)⟩
        | quietR hg hy => exact ⟨_, h3 (), fun E' O' hE hg' _ => .quietR (hg' _ hg) (hy.weaken hE fun _ h => h)⟩
    obtain ⟨Y, v, S, g0, g1, g2, g3⟩ := hu0
    have g1' := (Eff.put d1).1 g1
    refine ⟨Y, v, S, g0, g1', g2, fun y => ?_⟩
    have hsub : kp = 0 → ∀ w, Hp w0 (S y ++ R) w → Hp w0 (O ++ R) w := fun hk0 => by
      have hk : kq = 0 ∨ kq = 1 ∨ kq = 5 := by
        rcases h0 with ⟨_, h⟩ | ⟨h, _⟩
        · exact h
        · rw [hk0] at h; exact absurd h (by decide)
      cases g1' with
      | skip _ => exact fun _ h => h
      | quiet _ _ => exact fun _ h => h
      | quietR _ _ => exact fun _ h => h
      | make _ _ => exact fun w h => h.sub (by rw [List.append_assoc]; exact List.sublist_append_right _ _)
      | turn _ _ => rcases hk with h | h | h <;> exact absurd h (by decide)
    exact ⟨Unit, fun _ => u0, fun _ => S y, ⟨()⟩, hp _ _ (opd_put d3 _) (fun g hg => (guard_put d3).2 hg) hsub, h2, fun _ => hK _ _ _ _ _ (fun t => (put_swap d2 _ _ E t).symm) (hid _) (g3 y)⟩

/-! ### the order that is drawn -/
/-- Of any two that are walked in this order the second waits for the first, directly, or they may change places. -/
def pairsOk (ops : Array Oper) : List (Nat × Kd) → Bool
  | [] => true
  | (i, k) :: π => (π.all fun (j, kj) => match ops[i]?, ops[j]? with
    | some p, some q => Go.Proofs.YtmecikeaogjmpaaDoor.pairsOk.reach ops j i || swapOk ops k kj p q
    | _, _ => false) && pairsOk ops π

theorem pairsOk_mid {i : Nat} {k : Kd} : ∀ (A B : List (Nat × Kd)), pairsOk ops (A ++ (i, k) :: B) = true →
    (∀ j kj, (j, kj) ∈ A → ∃ p q, ops[j]? = some p ∧ ops[i]? = some q ∧ (Go.Proofs.YtmecikeaogjmpaaDoor.pairsOk.reach ops i j = true ∨ swapOk ops kj k p q = true)) ∧ pairsOk ops (A ++ B) = true
  | [], B, h => by
    simp only [List.nil_append, pairsOk, Bool.and_eq_true] at h
    exact ⟨fun _ _ h => by (cases h), h.2⟩
  | (j, kj) :: A, B, h => by
    simp only [List.cons_append, pairsOk, Bool.and_eq_true, List.all_eq_true] at h ⊢
    obtain ⟨h1, h2⟩ := h
    obtain ⟨g1, g2⟩ := pairsOk_mid A B h2
    refine ⟨fun j' kj' hj => ?_, fun x hx => h1 x ?_, g2⟩
    · rcases List.mem_cons.1 hj with hj | hj
      · cases hj
        have := h1 (i, k) (by simp)
        dsimp only at this
        cases hp : ops[j]? with
        | none => rw [hp] at this; simp at this
        | some p =>
          cases hq : ops[i]? with
          | none => rw [hp, hq] at this; simp at this
          | some q =>
            rw [hp, hq] at this
            exact ⟨p, q, rfl, rfl, by simpa using this⟩
      · exact g1 j' kj' hj
    · rcases List.mem_append.1 hx with hx | hx
      · exact List.mem_append.2 (.inl hx)
      · exact List.mem_append.2 (.inr (List.mem_cons_of_mem _ hx))


theorem SW.front {K : Env → List Ent → List Ent → Prop} (hK : Lax3 w0 K) {i : Nat} {k : Kd} {q : Oper} (hq : ops[i]? = some q) : ∀ (A B : List (Nat × Kd)) (E : Env) (O R : List Ent),
    (∀ j kj, (j, kj) ∈ A → ∃ p, ops[j]? = some p ∧ swapOk ops kj k p q = true) → SW P n w0 ops T K (A ++ (i, k) :: B) E O R → SW P n w0 ops T K ((i, k) :: (A ++ B)) E O R
  | [], _, _, _, _, _, h => h
  | (j, kj) :: A, B, E, O, R, hs, h => by
    obtain ⟨p, hp, h⟩ := h
    obtain ⟨p', hp', hsw⟩ := hs j kj List.mem_cons_self
    obtain rfl : p = p' := Option.some.inj (hp.symm.trans hp')
    have h2 : Stp P n w0 ops T kj j p E O R (fun E O R => Stp P n w0 ops T k i q E O R (SW P n w0 ops T K (A ++ B))) := by
      have ih := fun E O R => SW.front hK hq A B E O R (fun j kj hj => hs j kj (List.mem_cons_of_mem _ hj))
      have key : ∀ E O R, SW P n w0 ops T K (A ++ (i, k) :: B) E O R → Stp P n w0 ops T k i q E O R (SW P n w0 ops T K (A ++ B)) := fun E O R h => by
        obtain ⟨q', hq', h'⟩ := ih E O R h
        obtain rfl : q = q' := Option.some.inj (hq.symm.trans hq')
        exact h'
      simp only [Stp] at h ⊢
      split at h
      · rename_i hk; rw [if_pos hk]; exact ⟨h.1, h.2.1, h.2.2.1, fun b => key _ _ _ (h.2.2.2 b)⟩
      · rename_i hk; rw [if_neg hk]
        split at h
        · rename_i hk4; rw [if_pos hk4]
          obtain ⟨X, u, R, h0, h1, h2, h3, h4⟩ := h
          exact ⟨X, u, R, h0, h1, h2, h3, fun x => key _ _ _ (h4 x)⟩
        · rename_i hk4; rw [if_neg hk4]
          obtain ⟨X, u, R, h0, h1, h2, h3⟩ := h
          exact ⟨X, u, R, h0, h1, h2, fun x => key _ _ _ (h3 x)⟩
    have h3 := Stp.swap (SW.lax hK (A ++ B)) hsw h2
    refine ⟨q, hq, ?_⟩
    simp only [Stp] at h3 ⊢
    split at h3
    · rename_i hk; rw [if_pos hk]; exact ⟨h3.1, h3.2.1, h3.2.2.1, fun b => ⟨p, hp, h3.2.2.2 b⟩⟩
    · rename_i hk; rw [if_neg hk]
      split at h3
      · rename_i hk4; rw [if_pos hk4]
        obtain ⟨X, u, R, h0, h1, h2, h3, h4⟩ := h3
        exact ⟨X, u, R, h0, h1, h2, h3, fun x => ⟨p, hp, h4 x⟩⟩
      · rename_i hk4; rw [if_neg hk4]
        obtain ⟨X, u, R, h0, h1, h2, h4⟩ := h3
        exact ⟨X, u, R, h0, h1, h2, fun x => ⟨p, hp, h4 x⟩⟩

theorem Stp.wpOp {k : Kd} {o : Oper} {i : Nat} {Q : Exit → Act → World → Prop} {K : Env → List Ent → List Ent → Prop} {S : Act → World → Prop} (ho : ops[i]? = some o) (h : Stp P n w0 ops T k i o E O R K) (hR : ∀ E' O' R', K E' O' R' → VX n w0 (O' ++ R') E' S) {a : Act} {w : World} (ha : Models n E a) (hw : Hp w0 (O ++ R) w) : Go.wpOp P ops Q i S a w := by
  unfold Go.wpOp
  simp only [ho]
  simp only [Stp] at h
  split at h
  · obtain ⟨hg, hd, hA, h⟩ := h
    rw [if_pos (by simp [Region.wanted, hg])]
    refine .inl ?_
    unfold Oper.wp
    refine (hA a.eval w (ha.ev _)).upon fun v w' ⟨b, h1, h2, h3⟩ => ?_
    exact hR _ _ _ (h b) _ _ (models_put ha hd h1) (hw.new h2 h3)
  split at h
  · obtain ⟨X, u, R', _, hg, hy, hd, h3⟩ := h
    rw [if_pos (hg.wanted ha)]
    refine .inl ?_
    unfold Oper.wp
    refine (hy a.eval w [] (ha.ev _) (by simpa using hw)).upon fun v w' ⟨x, h1, h2⟩ => ?_
    exact hR _ _ _ (h3 x) _ _ (models_put ha hd h1) (by simpa using h2)
  · obtain ⟨X, u, R', _, h1, hd, h3⟩ := h
    cases h1 with
    | skip hg =>
      rw [if_neg (by rw [hg.wanted ha]; decide)]
      exact hR _ _ _ (h3 ()) _ _ (models_put ha hd (by simp [undef, cn])) hw
    | quiet hg hy =>
      rw [if_pos (hg.wanted ha)]
      refine .inl ?_
      unfold Oper.wp
      refine (hy a.eval w (ha.ev _) hw).upon fun v w' ⟨h1, h2⟩ => ?_
      exact hR _ _ _ (h3 ()) _ _ (models_put ha hd h1) (hw.ext h2)
    | quietR hg hy =>
      rw [if_pos (hg.wanted ha)]
      refine .inl ?_
      unfold Oper.wp
      refine (hy a.eval w (ha.ev _) (hw.sub (List.sublist_append_right _ _))).upon fun v w' ⟨h1, h2⟩ => ?_
      exact hR _ _ _ (h3 ()) _ _ (models_put ha hd h1) (hw.ext h2)
    | make hg hy =>
      rw [if_pos (hg.wanted ha)]
      refine .inl ?_
      unfold Oper.wp
      refine (hy a.eval w (ha.ev _) hw).upon fun v w' ⟨x, h1, h2, h4, h5⟩ => ?_
      exact hR _ _ _ (h3 x) _ _ (models_put ha hd h1) (by rw [List.append_assoc]; exact hw.news h2 h4 h5)
    | turn hg hy =>
      rw [if_pos (hg.wanted ha)]
      refine .inl ?_
      unfold Oper.wp
      refine (hy a.eval w [] (ha.ev _) (by simpa using hw)).upon fun v w' ⟨x, h1, h2⟩ => ?_
      exact hR _ _ _ (h3 x) _ _ (models_put ha hd h1) (by simpa using h2)

theorem any_of_walk {Q : Exit → Act → World → Prop} {K : Env → List Ent → List Ent → Prop} (hK : Lax3 w0 K) (hQ : ∀ E O R, K E O R → VX n w0 (O ++ R) E (Q .normal)) (hback : backOk ops = true) :
    ∀ (fuel : Nat) (π : List (Nat × Kd)) (listed : Array Bool) (E : Env) (O R : List Ent) (a : Act) (w : World), π.length ≤ fuel → listed.size = ops.size → (∀ j, j < ops.size → (listed.getD j true = false ↔ ∃ k, (j, k) ∈ π)) → (π.map (·.1)).Nodup →
      (∀ j o, ops[j]? = some o → listed.getD j false = true → ∀ e ∈ o.after, Region.binds .any e = true → listed.getD e.on false = true) → pairsOk ops π = true → SW P n w0 ops T K π E O R → Models n E a → Hp w0 (O ++ R) w → wpAny P .any ops Q fuel listed a w := by
  have hnone : ∀ (π : List (Nat × Kd)) (listed : Array Bool) (E : Env) (O R : List Ent) (a : Act) (w : World), listed.size = ops.size → (∀ j, j < ops.size → (listed.getD j true = false ↔ ∃ k, (j, k) ∈ π)) → Region.ready .any ops listed = [] → SW P n w0 ops T K π E O R → (∀ j k, (j, k) ∈ π → j < ops.size) → Models n E a → Hp w0 (O ++ R) w → Q .normal a w := by
    intro π listed E O R a w hsz hl hr hS hlt ha hw
    have hnil : π = [] := by
      apply Classical.byContradiction
      intro hne
      -- the least index that is not listed could come up
      have hex : ∃ j, j < ops.size ∧ listed.getD j true = false := by
        cases π with
        | nil => exact absurd rfl hne
        | cons x π => obtain ⟨j, k⟩ := x; exact ⟨j, hlt j k List.mem_cons_self, (hl j (hlt j k List.mem_cons_self)).2 ⟨k, List.mem_cons_self⟩⟩
      have hmin : ∀ m, (∃ j, j ≤ m ∧ j < ops.size ∧ listed.getD j true = false) → ∃ j, j < ops.size ∧ listed.getD j true = false ∧ ∀ i, i < j → listed.getD i true = true := by
        intro m
        induction m with
        | zero => rintro ⟨j, hj, h1, h2⟩; exact ⟨j, h1, h2, fun i hi => by omega⟩
        | succ m ih =>
          rintro ⟨j, hj, h1, h2⟩
          by_cases h : ∃ j, j ≤ m ∧ j < ops.size ∧ listed.getD j true = false
          · exact ih h
          · refine ⟨j, h1, h2, fun i hi => ?_⟩
            cases hi' : listed.getD i true with
            | true => rfl
            | false => exact absurd ⟨i, by omega, by omega, hi'⟩ h
      obtain ⟨j, hj⟩ := hex
      obtain ⟨j, h1, h2, h3⟩ := hmin j ⟨j, Nat.le_refl _, hj⟩
      have hmem : j ∈ Region.ready .any ops listed := by
        refine mem_ready.2 ⟨h2, ops[j], Array.getElem?_eq_getElem h1, fun e he hb => ?_⟩
        have hb' := List.all_eq_true.1 hback j (List.mem_range.2 h1)
        rw [Array.getElem?_eq_getElem h1] at hb'
        have hlt' := Array.all_eq_true'.1 hb' e he
        simp only [hb, Bool.not_true, Bool.false_or, decide_eq_true_eq] at hlt'
        have := h3 e.on hlt'
        have hs : e.on < listed.size := by omega
        simpa [hs] using this
      rw [hr] at hmem
      cases hmem
    subst hnil
    exact hQ E O R hS a w ha hw
  intro fuel
  induction fuel with
  | zero =>
    intro π listed E O R a w hf hsz hl _ _ _ hS ha hw
    have hnil : π = [] := List.eq_nil_of_length_eq_zero (by omega)
    subst hnil
    refine ⟨?_, hQ E O R hS a w ha hw⟩
    apply List.eq_nil_iff_forall_not_mem.2
    intro i hi
    obtain ⟨h1, o, h2, _⟩ := mem_ready.1 hi
    obtain ⟨k, hk⟩ := (hl i (Array.getElem?_eq_some_iff.1 h2).1).1 h1
    cases hk
  | succ fuel ih =>
    intro π listed E O R a w hf hsz hl hnd hcl hp hS ha hw
    refine ⟨fun hr => ?_, fun i hi => ?_⟩
    · -- nothing may come up
      refine hnone π listed E O R a w hsz hl hr hS (fun j k hj => ?_) ha hw
      -- an index of π is one of the region's
      have : ∀ (π : List (Nat × Kd)), pairsOk ops π = true → 2 ≤ π.length → ∀ j k, (j, k) ∈ π → j < ops.size := by
        intro π hp h2 j k hj
        obtain ⟨A, B, rfl⟩ := List.append_of_mem hj
        cases A with
        | nil =>
          cases B with
          | nil => simp at h2
          | cons y B =>
            simp only [List.nil_append, pairsOk, Bool.and_eq_true, List.all_eq_true] at hp
            have := hp.1 y List.mem_cons_self
            obtain ⟨y1, y2⟩ := y
            dsimp only at this
            cases hj' : ops[j]? with
            | none => rw [hj'] at this; simp at this
            | some o => exact (Array.getElem?_eq_some_iff.1 hj').1
        | cons x A =>
          obtain ⟨x1, x2⟩ := x
          obtain ⟨g, _⟩ := pairsOk_mid ((x1, x2) :: A) B hp
          obtain ⟨p, q, _, hq, _⟩ := g x1 x2 List.mem_cons_self
          exact (Array.getElem?_eq_some_iff.1 hq).1
      by_cases h2 : 2 ≤ π.length
      · exact this π hp h2 j k hj
      · cases π with
        | nil => cases hj
        | cons x π =>
          have : π = [] := List.eq_nil_of_length_eq_zero (by simp only [List.length_cons] at h2; omega)
          subst this
          simp only [List.mem_singleton] at hj
          subst hj
          obtain ⟨o, ho, _⟩ := hS
          exact (Array.getElem?_eq_some_iff.1 ho).1
    · obtain ⟨h1, o, h2, h3⟩ := mem_ready.1 hi
      have hlt := (Array.getElem?_eq_some_iff.1 h2).1
      obtain ⟨k, hk⟩ := (hl i hlt).1 h1
      obtain ⟨A, B, rfl⟩ := List.append_of_mem hk
      obtain ⟨g1, g2⟩ := pairsOk_mid A B hp
      have hnot : ∀ j kj, (j, kj) ∈ A → listed.getD j false = false := fun j kj hj => by
        obtain ⟨p, q, hp', _⟩ := g1 j kj hj
        have := (hl j (Array.getElem?_eq_some_iff.1 hp').1).2 ⟨kj, List.mem_append.2 (.inl hj)⟩
        exact getDb this
      have hsw : ∀ j kj, (j, kj) ∈ A → ∃ p, ops[j]? = some p ∧ swapOk ops kj k p o = true := fun j kj hj => by
        obtain ⟨p, q, hp', hq', h⟩ := g1 j kj hj
        obtain rfl : o = q := Option.some.inj (h2.symm.trans hq')
        rcases h with h | h
        · have := reach_listed hcl ops.size [i] j (fun j' hj' o' ho' e he hb => by
            simp only [List.mem_singleton] at hj'
            subst hj'
            obtain rfl : o = o' := Option.some.inj (h2.symm.trans ho')
            exact h3 e he hb) h
          rw [hnot j kj hj] at this
          cases this
        · exact ⟨p, hp', h⟩
      have hfront := SW.front hK h2 A B E O R hsw hS
      obtain ⟨o', ho', hst⟩ := hfront
      obtain rfl : o = o' := Option.some.inj (h2.symm.trans ho')
      have hi' : i < listed.size := by omega
      refine Stp.wpOp (ops := ops) h2 hst (fun E' O' R' hS' a' w' ha' hw' => ?_) ha hw
      refine ih (A ++ B) _ E' O' R' a' w' (by simp only [List.length_append, List.length_cons] at hf ⊢; omega) (by simpa using hsz) (fun j hj => ?_) ?_ (fun j oj hoj hlj e he hb => ?_) g2 hS' ha' hw'
      · rw [getD_set hi']
        have hndi : ∀ k', (i, k') ∉ A ++ B := by
          intro k' hk'
          simp only [List.map_append, List.map_cons] at hnd
          rw [List.nodup_append] at hnd
          obtain ⟨n1, n2, n3⟩ := hnd
          rcases List.mem_append.1 hk' with hk' | hk'
          · exact n3 i (List.mem_map_of_mem (f := (·.1)) hk') i List.mem_cons_self rfl
          · exact (List.nodup_cons.1 n2).1 (List.mem_map_of_mem (f := (·.1)) hk')
        by_cases hij : i = j
        · subst hij
          rw [if_pos rfl]
          exact ⟨fun h => by (cases h), fun ⟨k', hk'⟩ => absurd hk' (hndi k')⟩
        · rw [if_neg hij, hl j hj]
          constructor
          · rintro ⟨k', hk'⟩
            refine ⟨k', ?_⟩
            rcases List.mem_append.1 hk' with hk' | hk'
            · exact List.mem_append.2 (.inl hk')
            · rcases List.mem_cons.1 hk' with hk' | hk'
              · cases hk'; exact absurd rfl hij
              · exact List.mem_append.2 (.inr hk')
          · rintro ⟨k', hk'⟩
            refine ⟨k', ?_⟩
            rcases List.mem_append.1 hk' with hk' | hk'
            · exact List.mem_append.2 (.inl hk')
            · exact List.mem_append.2 (.inr (List.mem_cons_of_mem _ hk'))
      · simp only [List.map_append, List.map_cons] at hnd ⊢
        exact hnd.sublist (List.Sublist.append_left (List.sublist_cons_self _ _) _)
      · rw [getD_set hi'] at hlj ⊢
        split at hlj
        · rename_i hij
          subst hij
          obtain rfl : o = oj := Option.some.inj (h2.symm.trans hoj)
          rw [h3 e he hb]
          split <;> rfl
        · rw [hcl j oj hoj hlj e he hb]
          split <;> rfl


/-- **A region that draws its order, walked in the order π: S turns, R is only read.** -/
theorem V.drawR {id : Nat} {l : List Oper} {Q : Exit → Act → World → Prop} (π : List (Nat × Kd)) (T : Tab) (S R : List Ent) (hm : P.follows .mixedOrders = true) (hok : (permOk l.length π && pairsOk l.toArray π && backOk l.toArray) = true) (hO : ∀ w, Hp w0 O w → Hp w0 (S ++ R) w)
    (h : SW P n w0 l.toArray T (fun E S R => VE n w0 (S ++ R) E Q .normal) π E S R) : V P n w0 O E (.region id l.toArray true) Q := by
  intro a w ha hw
  simp only [Bool.and_eq_true] at hok
  obtain ⟨⟨h1, h2⟩, h3⟩ := hok
  obtain ⟨n1, n2⟩ := permOk_nodup h1
  refine wp_region_any hm ?_
  have hlen : π.length = l.toArray.size := by
    simp only [permOk, Bool.and_eq_true, decide_eq_true_eq] at h1
    simpa using h1.1.2
  refine any_of_walk (K := fun E S R => VE n w0 (S ++ R) E Q .normal) (fun E E' O O' R hE hO h a w ha hw => h a w (ha.mono fun t u ht => by rw [hE]; exact ht) (hp_nil (frame hO) w hw)) (fun _ _ _ h => h) h3 _ π _ E S R a _ (by omega) (by simp) (fun j hj => ?_) n1 (fun j o _ hj => ?_) h2 h ha ((hO _ hw).ext (below_drew _ _))
  · simp only [List.size_toArray] at hj
    exact ⟨fun _ => n2 j hj, fun _ => by simp [hj]⟩
  · rw [getD_replicate_false'] at hj
    cases hj
where
  getD_replicate_false' {m j : Nat} : (Array.replicate m false).getD j false = false := by
    rcases Nat.lt_or_ge j m with h | h
    · simp [h]
    · simp [h]

/-! ### steps of such a walk -/
section
variable {o : Oper} {i d : Nat} {π : List (Nat × Kd)} {K : Env → List Ent → List Ent → Prop}
theorem SW.q {u : Value} (ho : ops[i]? = some o) (hg : Wants ops E o) (hd : o.dst = some d) (hdn : d < n) (hy : YQ P w0 (O ++ R) E o u) (h : SW P n w0 ops T K π ((d, u) :: E) O R) : SW P n w0 ops T K ((i, 0) :: π) E O R :=
  ⟨o, ho, by rw [Stp, if_neg (by decide), if_neg (by decide)]; exact ⟨_, _, _, ⟨()⟩, .quiet hg.guard hy, dok hd hdn, fun _ => by rw [hd]; exact h⟩⟩
theorem SW.p {u : Value} (ho : ops[i]? = some o) (hg : Wants ops E o) (hd : o.dst = some d) (hdn : d < n) (hy : YQ P w0 R E o u) (h : SW P n w0 ops T K π ((d, u) :: E) O R) : SW P n w0 ops T K ((i, 5) :: π) E O R :=
  ⟨o, ho, by rw [Stp, if_neg (by decide), if_neg (by decide)]; exact ⟨_, _, _, ⟨()⟩, .quietR hg.guard hy, dok hd hdn, fun _ => by rw [hd]; exact h⟩⟩
theorem SW.r {u : Value} (ho : ops[i]? = some o) (hg : Wants ops E o) (hd : o.dst = some d) (hdn : d < n) (hy : YR P E o u) (h : SW P n w0 ops T K π ((d, u) :: E) O R) : SW P n w0 ops T K ((i, 5) :: π) E O R := SW.p ho hg hd hdn hy.q h
theorem SW.new {X : Type} [hX : Nonempty X] {u : X → Value} {N : X → List Ent} (ho : ops[i]? = some o) (hg : Wants ops E o) (hd : o.dst = some d) (hdn : d < n) (hy : YN P w0 (O ++ R) E o u N) (h : ∀ x, SW P n w0 ops T K π ((d, u x) :: E) (N x ++ O) R) : SW P n w0 ops T K ((i, 1) :: π) E O R :=
  ⟨o, ho, by rw [Stp, if_neg (by decide), if_neg (by decide)]; exact ⟨_, _, _, hX, .make hg.guard hy, dok hd hdn, fun x => by rw [hd]; exact h x⟩⟩
theorem SW.new1 {X : Type} [Nonempty X] {u : X → Value} {N : X → Ent} (ho : ops[i]? = some o) (hg : Wants ops E o) (hd : o.dst = some d) (hdn : d < n) (hy : YN P w0 (O ++ R) E o u (fun x => [N x])) (h : ∀ x, SW P n w0 ops T K π ((d, u x) :: E) (N x :: O) R) : SW P n w0 ops T K ((i, 1) :: π) E O R := SW.new ho hg hd hdn hy h
theorem SW.a {u : Nat → Value} {e : Nat → Ent} (ho : ops[i]? = some o) (hg : o.guard = none) (hd : o.dst = some d) (hdn : d < n) (hT : T.get i = (u, e)) (hy : ∀ w0, YN P w0 [] E o u (fun b => [e b])) (h : ∀ b, SW P n w0 ops T K π ((d, u b) :: E) (e b :: O) R) : SW P n w0 ops T K ((i, 2) :: π) E O R :=
  ⟨o, ho, by
    rw [Stp, if_pos rfl, hT]
    exact ⟨hg, dok hd hdn, YA.of hy, fun b => by rw [hd]; exact h b⟩⟩
theorem SW.c {X : Type} [hX : Nonempty X] {u : X → Value} {O' : X → List Ent} (ho : ops[i]? = some o) (hg : Wants ops E o) (hd : o.dst = some d) (hdn : d < n) (hy : YC P w0 (O ++ R) E o u (fun x => O' x ++ R)) (h : ∀ x, SW P n w0 ops T K π ((d, u x) :: E) (O' x) R) : SW P n w0 ops T K ((i, 3) :: π) E O R :=
  ⟨o, ho, by rw [Stp, if_neg (by decide), if_neg (by decide)]; exact ⟨_, _, _, hX, .turn hg.guard hy, dok hd hdn, fun x => by rw [hd]; exact h x⟩⟩
theorem SW.s {X : Type} [hX : Nonempty X] {u : X → Value} {O' : X → List Ent} (ho : ops[i]? = some o) (hg : Wants ops E o) (hd : o.dst = none) (hy : YC P w0 (O ++ R) E o u (fun x => O' x ++ R)) (h : ∀ x, SW P n w0 ops T K π E (O' x) R) : SW P n w0 ops T K ((i, 3) :: π) E O R :=
  ⟨o, ho, by rw [Stp, if_neg (by decide), if_neg (by decide)]; exact ⟨_, _, _, hX, .turn hg.guard hy, (fun d' h' => by rw [hd] at h'; cases h'), fun x => by rw [hd]; exact h x⟩⟩
theorem SW.no {k : Kd} {j t : Nat} {b b' : Bool} (ho : ops[i]? = some o) (hk : k ≠ 2 ∧ k ≠ 4) (hg : o.guard = some (j, b)) (hj : (ops[j]?).bind (·.dst) = some t) (hb : E.get t = some (.bool b')) (hne : (b' == b) = false) (hd : o.dst = some d) (hdn : d < n)
    (h : SW P n w0 ops T K π ((d, undef) :: E) O R) : SW P n w0 ops T K ((i, k) :: π) E O R :=
  ⟨o, ho, by
    rw [Stp, if_neg hk.1, if_neg hk.2]
    refine ⟨_, _, _, ⟨()⟩, .skip (hne ▸ Guard.some hg hj hb), dok hd hdn, fun _ => by rw [hd]; exact h⟩⟩
theorem SW.split (hK : Lax3 w0 K) (t : Nat) (b : Bool) (hb : E.get t = some (.bool b)) (ht : b = true → SW P n w0 ops T K π ((t, .bool true) :: E) O R) (hf : b = false → SW P n w0 ops T K π ((t, .bool false) :: E) O R) : SW P n w0 ops T K π E O R := by
  cases b with
  | true => exact SW.lax hK π _ _ _ _ _ (fun s => (Env.get_shadow t _ E hb s).symm) (fun _ _ h => h) (ht rfl)
  | false => exact SW.lax hK π _ _ _ _ _ (fun s => (Env.get_shadow t _ E hb s).symm) (fun _ _ h => h) (hf rfl)
theorem eqO {O' : List Ent} {S : Act → World → Prop} (h : O = O') (hk : VX n w0 O' E S) : VX n w0 O E S := h ▸ hk
theorem SW.t {X : Type} [hX : Nonempty X] {u : X → Value} {O' : X → List Ent} (ho : ops[i]? = some o) (hg : Wants ops E o) (hd : o.dst = none) (hy : YC P w0 (O ++ R) E o u O') (h : ∀ x, SW P n w0 ops T K π E (O' x) []) : SW P n w0 ops T K ((i, 4) :: π) E O R :=
  ⟨o, ho, by rw [Stp, if_neg (by decide), if_pos rfl]; exact ⟨_, _, _, hX, hg.guard, hy, (fun d' h' => by rw [hd] at h'; cases h'), fun x => by rw [hd]; exact h x⟩⟩
theorem SW.done (h : K E O R) : SW P n w0 ops T K [] E O R := h
end
end
end Dr
theorem Hp.pick {w0 w : World} {O M F : List Ent} (hw : Hp w0 O w) (h : Pick O M F) : Hp w0 M w := (hw.perm' h.perm).sub (List.sublist_append_right _ _)
end Go.Proofs.YtmecikeaogjmpaaDoor


namespace Go.Proofs.YtmecikeaogjmpaaDoor
open Go.RowKit
set_option linter.unusedVariables false
set_option linter.unusedSimpArgs false
set_option maxRecDepth 20000

attribute [local irreducible] lnB coOk coB coG badK isBad scmp

end Go.Proofs.YtmecikeaogjmpaaDoor


namespace Go.Proofs.YtmecikeaogjmpaaDoor
open Go.RowKit

section
variable {P : Program} {E : Env} {o : Oper}
end

theorem wrap_quo {a b : Int} (h : 0 ≤ a ∧ a ≤ 9223372036854775807 ∧ 0 < b) : IntKind.i64.wrap (a.tdiv b) = a.tdiv b := by
  obtain ⟨h1, h2, h3⟩ := h
  have e : a.tdiv b = a / b := Int.tdiv_eq_ediv_of_nonneg h1
  have e1 : 0 ≤ a / b := Int.ediv_nonneg h1 (by omega)
  have e2 : a / b ≤ a := Int.ediv_le_self b h1
  rw [e]
  exact wrap_in (by omega)
theorem in_t {n lo hi : Int} (h : lo ≤ n) : icmp .leq n hi = decide (lo ≤ n ∧ n ≤ hi) := by
  rw [Bool.eq_iff_iff, decide_eq_true_eq]
  constructor
  · intro h; have := ic_leq h; omega
  · rintro ⟨_, h⟩; exact decide_eq_true h
theorem in_f {n lo hi : Int} (h : n < lo) : false = decide (lo ≤ n ∧ n ≤ hi) := by
  symm; rw [decide_eq_false_iff_not]; omega
end Go.Proofs.YtmecikeaogjmpaaDoor


namespace Go.Proofs.YtmecikeaogjmpaaDoor

end Go.Proofs.YtmecikeaogjmpaaDoor


namespace Go.Proofs.YtmecikeaogjmpaaDoor
open Go.RowKit

abbrev V3 := Nat × Nat × Nat
def z3 : V3 := (0, 0, 0)
def vv (v : V3) : Value := .agg #[.float .f32 v.1, .float .f32 v.2.1, .float .f32 v.2.2]
def vl : List V3 → List Value
  | [] => []
  | v :: vs => .float .f32 v.1 :: .float .f32 v.2.1 :: .float .f32 v.2.2 :: vl vs
section
variable {P : Program} {n : Nat} {w0 : World} {O : List Ent} {E : Env} {o : Oper}
end

def Can3 (a : V3) : Prop := Can .f32 a.1 ∧ Can .f32 a.2.1 ∧ Can .f32 a.2.2
/-! ### the field of a segment -/
end Go.Proofs.YtmecikeaogjmpaaDoor


namespace Go.Proofs.YtmecikeaogjmpaaDoor
open Go.RowKit

abbrev Wr := List V3 × Bool × Nat
def zw : Wr := ([], false, 0)
def wrents (t : TypeId) (f : Nat → Option Addr × Nat) (ws : List Wr) : List Ent := (List.range ws.length).map fun i => ⟨(f i).1, vl (ws.getD i zw).1, (f i).2 * 3, t⟩
theorem wrents_mem {t : TypeId} {f : Nat → Option Addr × Nat} {ws : List Wr} {i : Nat} (h : i < ws.length) : (⟨(f i).1, vl (ws.getD i zw).1, (f i).2 * 3, t⟩ : Ent) ∈ wrents t f ws := by
  unfold wrents
  exact List.mem_map.2 ⟨i, by simpa using h, rfl⟩
/-- Each wire's points lie where its header says. -/
def WRws (w : World) (f : Nat → Option Addr × Nat) (ws : List Wr) : Prop := ∀ i, i < ws.length → Cl w (f i).1 (vl (ws.getD i zw).1)
theorem WRws.below {w w' : World} {f : Nat → Option Addr × Nat} {ws : List Wr} (h : WRws w f ws) (hb : Below w.heap.size w w') : WRws w' f ws := fun i hi => (h i hi).below hb
theorem WRws.root {w0 w : World} {O : List Ent} {f : Nat → Option Addr × Nat} {ws : List Wr} (h : WRws w0 f ws) (hw : Hp w0 O w) : WRws w f ws := h.below hw.below
inductive WRowsIn : List Ent → TypeId → (Nat → Option Addr × Nat) → List Wr → Prop
  | here {t : TypeId} {f : Nat → Option Addr × Nat} {ws : List Wr} {O : List Ent} : WRowsIn (wrents t f ws ++ O) t f ws
  | last {t : TypeId} {f : Nat → Option Addr × Nat} {ws : List Wr} : WRowsIn (wrents t f ws) t f ws
  | there {t : TypeId} {f : Nat → Option Addr × Nat} {ws : List Wr} {e : Ent} {O : List Ent} : WRowsIn O t f ws → WRowsIn (e :: O) t f ws
  | thereS {t : TypeId} {f : Nat → Option Addr × Nat} {ws : List Wr} {S O : List Ent} : WRowsIn O t f ws → WRowsIn (S ++ O) t f ws
theorem WRowsIn.mem {O : List Ent} {t : TypeId} {f : Nat → Option Addr × Nat} {ws : List Wr} (h : WRowsIn O t f ws) : ∀ i, i < ws.length → (⟨(f i).1, vl (ws.getD i zw).1, (f i).2 * 3, t⟩ : Ent) ∈ O := by
  induction h with
  | here => exact fun i hi => List.mem_append_left _ (wrents_mem hi)
  | last => exact fun i hi => wrents_mem hi
  | there _ ih => exact fun i hi => List.mem_cons_of_mem _ (ih i hi)
  | thereS _ ih => exact fun i hi => List.mem_append_right _ (ih i hi)
theorem WRws.own {w0 w : World} {O : List Ent} {t : TypeId} {f : Nat → Option Addr × Nat} {ws : List Wr} (h : WRowsIn O t f ws) (hw : Hp w0 O w) : WRws w f ws := fun i hi => Sees.own (h.mem i hi) w hw
def Cans3 (vs : List V3) : Prop := ∀ v ∈ vs, Can3 v
theorem Cans3.row {vs : List V3} (h : Cans3 vs) {k : Nat} (hk : k < vs.length) : Can3 (vs.getD k z3) := h _ (by simp [hk])
def CansW (ws : List Wr) : Prop := ∀ w ∈ ws, Cans3 w.1 ∧ Can .f32 w.2.2
theorem CansW.row {ws : List Wr} (h : CansW ws) {k : Nat} (hk : k < ws.length) : Cans3 (ws.getD k zw).1 ∧ Can .f32 (ws.getD k zw).2.2 := h _ (by simp [hk])
section
variable {P : Program} {n : Nat} {w0 : World} {O : List Ent} {E : Env} {o : Oper}
end

/-! ### sizes -/
/-! ### what is valid -/
section
variable {ps : List V3} {cl : Bool} {cur : Nat}
end
/-! ### the field -/
end Go.Proofs.YtmecikeaogjmpaaDoor


namespace Go.Proofs.YtmecikeaogjmpaaDoor
open Go.RowKit

theorem tmod_nat (i n : Nat) : ((i : Int) + 1).tmod (n : Int) = (((i + 1) % n : Nat) : Int) := by
  rw [show ((i : Int) + 1) = ((i + 1 : Nat) : Int) by omega]
  exact (Int.ofNat_tmod _ _).symm
section
variable {P : Program} {n : Nat} {w0 : World} {O : List Ent} {E : Env} {o : Oper}
end
end Go.Proofs.YtmecikeaogjmpaaDoor


namespace Go.Proofs.YtmecikeaogjmpaaDoor
open Go.RowKit

section
variable {x : Nat} {ok : Bool} {s : Nat × Nat × Bool}
end
section
variable {ws : List Wr} {vs : List V3} {way : V3}
end
end Go.Proofs.YtmecikeaogjmpaaDoor


namespace Go.Proofs.YtmecikeaogjmpaaDoor
open Go.RowKit

section
variable {wi hi de : Int} {f : V3} {st n : Nat}
end

/-! ### nodes in order -/
section
variable {W H D x y z j : Nat}
end

section
variable {P : Program} {n : Nat} {w0 : World} {O : List Ent} {E : Env} {o : Oper}
theorem yr_addN {t ty : TypeId} {x y : Operand} {a b : Int} (r : Nat) (ho : o.op = .binOp .add t x y ty) (hx : E.opd x = some (.int .i64 a)) (hy : E.opd y = some (.int .i64 b)) (h : a + b = (r : Int)) (hb : r ≤ 9223372036854775807) : YR P E o (.int .i64 (r : Int)) := by
  rw [← h]
  exact yr_int ho hx hy (.inl ⟨rfl, wrap_in (by omega)⟩)
end

/-! ### places, values -/
section
variable {vs : List V3} {W H D tw x y z j k a b : Nat}
end
section
variable {f : V3} {st : Nat} {wi hi de : Int} {vs : List V3}
end
end Go.Proofs.YtmecikeaogjmpaaDoor


namespace Go.Proofs.YtmecikeaogjmpaaDoor
open Go.RowKit

section
variable {ws : List Wr} {p m : V3} {st : Nat}
end

/-! ### the checked step -/
section
variable {ws : List Wr} {p m : V3} {st : Nat}
end
end Go.Proofs.YtmecikeaogjmpaaDoor


namespace Go.Proofs.YtmecikeaogjmpaaDoor
open Go.RowKit

end Go.Proofs.YtmecikeaogjmpaaDoor


namespace Go.Proofs.YtmecikeaogjmpaaDoor
open Go.RowKit

section
variable {ws : List Wr} {f : V3} {st W H D x y z k : Nat} {wi hi de : Int}
theorem tmodN (a b : Nat) : ((a : Int)).tmod (b : Int) = ((a % b : Nat) : Int) := (Int.ofNat_tmod _ _).symm
theorem tdivN (a b : Nat) : ((a : Int)).tdiv (b : Int) = ((a / b : Nat) : Int) := (Int.ofNat_tdiv _ _).symm
end
section
variable {P : Program} {E : Env} {o : Oper}
theorem yr_remN {t ty : TypeId} {x y : Operand} {p q : Int} (a b : Nat) (ho : o.op = .binOp .rem t x y ty) (hx : E.opd x = some (.int .i64 p)) (hy : E.opd y = some (.int .i64 q)) (hp : p = (a : Int)) (hq : q = (b : Int)) (hb : 0 < b) : YR P E o (.int .i64 ((a % b : Nat) : Int)) := by
  subst hp; subst hq
  have h := yr_rem (P := P) ho hx hy (by omega)
  rwa [tmodN] at h
theorem yr_quoN {t ty : TypeId} {x y : Operand} {p q : Int} (a b : Nat) (ho : o.op = .binOp .quo t x y ty) (hx : E.opd x = some (.int .i64 p)) (hy : E.opd y = some (.int .i64 q)) (hp : p = (a : Int)) (hq : q = (b : Int)) (hb : 0 < b) (ha : a ≤ 9223372036854775807) : YR P E o (.int .i64 ((a / b : Nat) : Int)) := by
  subst hp; subst hq
  have h := yr_quo (P := P) ho hx hy (by omega) (wrap_quo (by omega))
  rwa [tdivN] at h
end
section
variable {ws : List Wr} {f : V3} {st W H D : Nat} {wi hi de n : Int}
end
end Go.Proofs.YtmecikeaogjmpaaDoor


namespace Go.Proofs.YtmecikeaogjmpaaDoor
open Go.RowKit Go.Lib
section
variable {P : Program} {w0 : World} {O : List Ent} {E : Env} {o : Oper}
theorem yr_strAdd {t ty : TypeId} {x y : Operand} {a b c : ByteArray} (ho : o.op = .binOp .add t x y ty) (hx : E.opd x = some (.string a)) (hy : E.opd y = some (.string b)) (h : a.size + b.size ≤ 9223372036854775807) (hc : a ++ b = c) : YR P E o (.string c) := yr_of fun ρ w hE => by
  have h1 := cn_string (hE.get (x := x) (by simp [ho, Op.operands]) hx)
  have h2 := cn_string (hE.get (x := y) (by simp [ho, Op.operands]) hy)
  subst hc
  refine ⟨.string (a ++ b), ?_, rfl⟩
  have h3 : ¬ (((a.size + b.size : Nat) : Int) > IntKind.i64.max) := by
    have : IntKind.i64.max = 9223372036854775807 := by decide
    omega
  have hs : (Op.stringOp .add a b).run P w = .ok (.string (a ++ b)) w := by
    unfold Op.stringOp
    simp only
    rw [if_neg h3]; rfl
  simp [execOp, ho, h1, h2, eqGuard, binOp, hs]
end
theorem tab_keep {P : Program} {w w' : World} {name : String} {k : IntKind} {zs : List Int} (h : TabIs P w name k zs) (hb : Below w.heap.size w w') : TabIs P w' name k zs := by
  unfold TabIs World.var? at *
  cases hg : P.globalNamed name with
  | none => rw [hg] at h; cases h
  | some g =>
    rw [hg] at h
    have hlt : g < w.heap.size := by
      rcases Nat.lt_or_ge g w.heap.size with h1 | h1
      · exact h1
      · simp [Array.getElem?_eq_none h1] at h
    have := hb.block g hlt
    simp only [Option.bind_some] at h ⊢
    rw [this]
    exact h
/-! ### decimals -/
def dN (u : Nat) : List Int := (decDigits u).map fun b => (b.toNat : Int)
theorem dN_small {u : Nat} (h : u < 10) : dN u = [((48 + u : Nat) : Int)] := by
  unfold dN
  rw [decDigits, dif_pos h]
  simp only [List.map_cons, List.map_nil, UInt8.toNat_ofNat', List.cons.injEq, and_true]
  omega
theorem dN_big {u : Nat} (h : ¬ u < 10) : dN u = dN (u / 10) ++ [((48 + u % 10 : Nat) : Int)] := by
  unfold dN
  rw [decDigits, dif_neg h]
  simp only [List.map_append, List.map_cons, List.map_nil, UInt8.toNat_ofNat']
  congr 2
  omega
theorem dN_len : ∀ (k u : Nat), u ≤ k → (dN u).length ≤ u + 1
  | k, u, hk => by
    by_cases h : u < 10
    · rw [dN_small h]; simp
    · rw [dN_big h, List.length_append, List.length_singleton]
      cases k with
      | zero => omega
      | succ k => have := dN_len k (u / 10) (by omega); omega
theorem dN_ne (u : Nat) : dN u ≠ [] := by
  by_cases h : u < 10
  · rw [dN_small h]; simp
  · rw [dN_big h]; simp
theorem stb_dN (u : Nat) : stb (dN u) = ⟨(decDigits u).toArray⟩ := by
  unfold stb dN
  rw [List.map_map]
  congr 2
  have : ∀ l : List UInt8, l.map ((fun n : Int => UInt8.ofNat n.toNat) ∘ fun b : UInt8 => (b.toNat : Int)) = l := by
    intro l
    induction l with
    | nil => rfl
    | cons x l ih => rw [List.map_cons, ih]; simp
  exact this _
def DecI (n v : Nat) (t : List Int) : Prop := ((v ≠ 0 ∨ t.length = 0) ∧ dN v ++ t = dN n) ∨ (v = 0 ∧ t.length ≠ 0 ∧ t = dN n)
theorem decI_0 (n : Nat) : DecI n n [] := .inl ⟨.inr rfl, by simp⟩
theorem decI_step {n v : Nat} {t : List Int} (h : DecI n v t) (hc : t.length = 0 ∨ v ≠ 0) : DecI n (v / 10) (((48 + v % 10 : Nat) : Int) :: t) := by
  rcases h with ⟨_, h2⟩ | ⟨h1, h2, _⟩
  · by_cases hv : v < 10
    · refine .inr ⟨by omega, by simp, ?_⟩
      rw [dN_small hv] at h2
      rw [← h2, Nat.mod_eq_of_lt hv]; rfl
    · refine .inl ⟨.inl (by omega), ?_⟩
      rw [dN_big hv, List.append_assoc] at h2
      exact h2
  · omega
theorem decI_end {n : Nat} {t : List Int} (h : DecI n 0 t) (ht : t.length ≠ 0) : t = dN n := by
  rcases h with ⟨h1, _⟩ | ⟨_, _, h3⟩
  · omega
  · exact h3
theorem decI_len {n v : Nat} {t : List Int} (h : DecI n v t) : t.length ≤ n + 1 := by
  have h9 := dN_len n n (Nat.le_refl _)
  rcases h with ⟨_, h2⟩ | ⟨_, _, h2⟩
  · have := congrArg List.length h2
    rw [List.length_append] at this
    omega
  · rw [h2]; exact h9
/-! ### marks -/
def mt (n : Nat) : ByteArray := if n = 0 then ⟨#[109, 48]⟩ else stb (109 :: dN n)
theorem sx_set (ss : List ByteArray) (i : Nat) (x : ByteArray) : setAt (sx ss) i [.string x] = sx (ss.set i x) := by
  show (sx ss).set i (.string x) = _
  simp [sx, List.map_set]
/-! ### checks -/
def chkK (c : Nat) (s : ByteArray) : Nat → Nat
  | 0 => c
  | k + 1 => (739 * chkK c s k + sb s k + 67) % 65003
theorem chkK_lt {c : Nat} {s : ByteArray} (h : c < 65003) : ∀ k, chkK c s k < 65003
  | 0 => h
  | k + 1 => Nat.mod_lt _ (by decide)
def chk (c : Nat) (s : ByteArray) : Nat := chkK c s s.size
theorem chk_lt {c : Nat} {s : ByteArray} (h : c < 65003) : chk c s < 65003 := chkK_lt h _
def dec (n : Nat) : ByteArray := stb (dN n)
theorem itoa_dec (n : Nat) : (⟨(itoa (n : Int)).toArray⟩ : ByteArray) = dec n := by
  unfold itoa dec
  rw [if_neg (by omega), Int.toNat_natCast, stb_dN]
/-! ### a line: a number, a space, a text -/
def num (l : ByteArray) : ByteArray := ⟨(cut l.data.toList [32]).1.toArray⟩
def txt (l : ByteArray) : ByteArray := ⟨(cut l.data.toList [32]).2.1.toArray⟩
def fnd (l : ByteArray) : Bool := (cut l.data.toList [32]).2.2
def good (l : ByteArray) (c : Nat) : Bool := fnd l && scmp .eql (num l) (dec (chk c (txt l)))
def go : List ByteArray → Nat → List ByteArray → Nat → List ByteArray × Nat
  | [], _, out, n => (out, n)
  | l :: ls, c, out, n => if good l c then go ls (chk c (txt l)) (out ++ [txt l]) (n + l.size + 1) else (out, n)
def recO (s : ByteArray) : List ByteArray := (go ((lnB s).take ((lnB s).length - 1)) 0 [] 0).1
def recN (s : ByteArray) : Nat := (go ((lnB s).take ((lnB s).length - 1)) 0 [] 0).2
/-! ### the same from a place in the text on -/
theorem u8_nat {a : Nat} (h : a < 256) : IntKind.u8.wrap (a : Int) = (a : Int) := by
  unfold IntKind.wrap
  simp [IntKind.signed, IntKind.bits]
  omega
def rO (s : ByteArray) : List ByteArray := if s.size ≤ 12000 then recO s else []
def rN (s : ByteArray) : Nat := if s.size ≤ 12000 then recN s else 0
def rB (s : ByteArray) : Bool := decide (s.size ≤ 12000)
theorem int_args2 {vs : Array Value} {k k2 : IntKind} {a b : Int} (h : vs.toList.map cn = [.int k a, .int k2 b]) : vs = #[.int k a, .int k2 b] := by
  obtain ⟨l⟩ := vs
  match l, h with
  | [], h => simp at h
  | [_], h => simp at h
  | [x, y], h =>
    simp only [List.map_cons, List.map_nil, List.cons.injEq, and_true] at h
    rw [cn_int h.1, cn_int h.2]
  | _ :: _ :: _ :: _, h => simp at h
theorem chkK_0 (c : Nat) (s : ByteArray) : chkK c s 0 = c := rfl
theorem chkK_s (c : Nat) (s : ByteArray) (k : Nat) : chkK c s (k + 1) = (739 * chkK c s k + sb s k + 67) % 65003 := rfl
end Go.Proofs.YtmecikeaogjmpaaDoor


namespace Go.Proofs.YtmecikeaogjmpaaDoor
open Go.RowKit
set_option linter.unusedVariables false
set_option linter.unusedSimpArgs false
set_option maxRecDepth 20000



end Go.Proofs.YtmecikeaogjmpaaDoor


namespace Go.Proofs.YtmecikeaogjmpaaDoor
open Go.RowKit
set_option linter.unusedVariables false
set_option linter.unusedSimpArgs false
set_option maxRecDepth 20000



theorem c_within {w : World} {n lo hi : Int} : Pure Tryd.prog 43 [.int .i64 n, .int .i64 lo, .int .i64 hi] w (.bool (decide (lo ≤ n ∧ n ≤ hi))) := by
  refine Pure.enter Tryd.func43 rfl Tryd.ntmps43 (Nat.le_of_ble_eq_true rfl) ?_
  refine V.seq ?_
  refine V.region ?_
  refine VL.r (.inl rfl) rfl (by decide) (yr_assign (u := .bool false) rfl rfl) ?_
  refine VL.nil ?_
  refine VE.then_wp ?_
  refine V.seq ?_
  refine V.region ?_
  refine VL.r (.inl rfl) rfl (by decide) (yr_move rfl rfl) ?_
  refine VL.r (.inl rfl) rfl (by decide) (yr_move rfl rfl) ?_
  refine VL.r (.inl rfl) rfl (by decide) (yr_icmp rfl (.inr (.inr (.inr (.inr (.inr rfl))))) rfl rfl) ?_
  refine VL.r (.inl rfl) rfl (by decide) (yr_move rfl rfl) ?_
  refine VX.split 10 _ rfl (fun h1 => ?_) (fun h1 => ?_)
  · skip
    replace h1 := ic_geq h1
    refine VL.r (.inr ⟨_, _, _, rfl, rfl, rfl⟩) rfl (by decide) (yr_move rfl rfl) ?_
    refine VL.r (.inr ⟨_, _, _, rfl, rfl, rfl⟩) rfl (by decide) (yr_move rfl rfl) ?_
    refine VL.r (.inr ⟨_, _, _, rfl, rfl, rfl⟩) rfl (by decide) (yr_icmp rfl (.inr (.inr (.inr (.inl rfl)))) rfl rfl) ?_
    refine VL.r (.inl rfl) rfl (by decide) (yr_pick_t rfl rfl rfl) ?_
    refine VL.r (.inl rfl) rfl (by decide) (yr_assign rfl rfl) ?_
    refine VL.nil ?_
    refine VE.then_wp ?_
    refine V.ret ?_
    refine ret1 rfl rfl (fun w1 hw => ?_)
    exact ⟨congrArg Value.bool (in_t (by assumption)), hw.below⟩
  · skip
    replace h1 := ic_geq' h1
    refine VL.no rfl rfl rfl rfl rfl (by decide) ?_
    refine VL.no rfl rfl rfl rfl rfl (by decide) ?_
    refine VL.no rfl rfl rfl rfl rfl (by decide) ?_
    refine VL.r (.inl rfl) rfl (by decide) (yr_pick_f (u := .bool false) rfl rfl rfl) ?_
    refine VL.r (.inl rfl) rfl (by decide) (yr_assign rfl rfl) ?_
    refine VL.nil ?_
    refine VE.then_wp ?_
    refine V.ret ?_
    refine ret1 rfl rfl (fun w1 hw => ?_)
    exact ⟨congrArg Value.bool (in_f (by assumption)), hw.below⟩

end Go.Proofs.YtmecikeaogjmpaaDoor


namespace Go.Proofs.YtmecikeaogjmpaaDoor
open Go.RowKit
set_option linter.unusedVariables false
set_option linter.unusedSimpArgs false
set_option maxRecDepth 20000

theorem elt5_Jr : Elt Tryd.prog 5 [Value.int .u8 0] 1 := Elt.mk' (by kernel_rfl) (by decide)
theorem sz9_Jr : (Tryd.prog.info? 9).map (·.size) = some 1 := by kernel_rfl
theorem mixed_Jr : Tryd.prog.follows .mixedOrders = true := by kernel_rfl
theorem fb9_Jr : flatB Tryd.prog 9 = true := by kernel_rfl
theorem known43_Jr : Known Tryd.prog 43 := Known.mk' Tryd.func43 (by kernel_rfl)
theorem known45_Jr : Known Tryd.prog 45 := Known.mk' Tryd.func45 (by kernel_rfl)
attribute [local irreducible] lnB mt dN chkK num txt fnd good go recO recN rO rN rB scmp List.getD stb

theorem c_eqStr {w : World} {a b : Option Addr} {c d : Nat} {ss : List ByteArray} (hA : Cl w a (sx ss)) (hB : Cl w b (sx ss)) (hn : ss.length ≤ 1050000) : Pure Tryd.prog 13 [.slice a ss.length c, .slice b ss.length d] w (.bool true) := by
  refine Pure.enter Tryd.func13 rfl Tryd.ntmps13 (Nat.le_of_ble_eq_true rfl) ?_
  refine V.seq ?_
  refine V.region ?_
  refine VL.r (.inl rfl) rfl (by decide) (yr_assign (u := .bool false) rfl rfl) ?_
  refine VL.nil ?_
  refine VE.then_wp ?_
  refine V.seq ?_
  refine V.seq ?_
  refine V.region ?_
  refine VL.r (.inl rfl) rfl (by decide) (yr_move rfl rfl) ?_
  refine VL.r (.inl rfl) rfl (by decide) (yr_len rfl Tryd.underlying25 rfl) ?_
  refine VL.r (.inl rfl) rfl (by decide) (yr_move rfl rfl) ?_
  refine VL.r (.inl rfl) rfl (by decide) (yr_len rfl Tryd.underlying25 rfl) ?_
  refine VL.r (.inl rfl) rfl (by decide) (yr_icmp rfl (.inr (.inl rfl)) rfl rfl) ?_
  refine VL.nil ?_
  refine VE.then_wp ?_
  refine V.cond rfl (fun h1 => ?_) (fun h1 => ?_)
  · skip
    replace h1 := ic_neq h1
    exfalso; omega
  · skip
    replace h1 := ic_neq' h1
    refine V.skip ?_
    refine VE.then_wp ?_
    refine V.seq ?_
    refine V.seq ?_
    refine V.region ?_
    refine VL.r (.inl rfl) rfl (by decide) (yr_assign (u := .int .i64 0) rfl rfl) ?_
    refine VL.nil ?_
    refine VE.then_wp ?_
    refine V.block ?_
    refine V.loops (G := Nat) [(0, _), (1, _)] (fun (k : Nat) => k ≤ ss.length) (fun (k : Nat) => [(5, .int .i64 (k : Int))]) (fun (k : Nat) => ss.length - k) 0 (.cons rfl (.cons rfl .nil)) (.cons rfl .nil) ?_ ?_
    · exact (by simp)
    rintro k hk
    show V _ _ _ _ ([(5, .int .i64 (k : Int))] ++ [(0, _), (1, _)]) _ _
    refine V.seq ?_
    refine V.seq ?_
    refine V.region ?_
    refine VL.r (.inl rfl) rfl (by decide) (yr_move rfl rfl) ?_
    refine VL.r (.inl rfl) rfl (by decide) (yr_move rfl rfl) ?_
    refine VL.r (.inl rfl) rfl (by decide) (yr_len rfl Tryd.underlying25 rfl) ?_
    refine VL.r (.inl rfl) rfl (by decide) (yr_icmp rfl (.inr (.inr (.inl rfl))) rfl rfl) ?_
    refine VL.nil ?_
    refine VE.then_wp ?_
    refine V.cond rfl (fun h2 => ?_) (fun h2 => ?_)
    · skip
      replace h2 := ic_lss h2
      refine V.skip ?_
      refine VE.then_wp ?_
      refine V.seq ?_
      refine V.block ?_
      refine V.seq ?_
      refine Dr.V.drawR [(0, 5), (1, 5), (2, 5), (3, 5), (4, 5), (5, 5), (6, 5), (7, 5), (8, 5)] [] [] _ mixed_Jr (by kernel_rfl) (fun w hw => hw) ?_
      refine Dr.SW.r rfl (.inl rfl) rfl (by decide) (yr_move rfl rfl) ?_
      refine Dr.SW.r rfl (.inl rfl) rfl (by decide) (yr_move rfl rfl) ?_
      refine Dr.SW.p rfl (.inl rfl) rfl (by decide) (yq_idx (k := k) rfl Tryd.underlying25 sz9_Jr rfl rfl (by first | exact Sees.root (by assumption) | exact Sees.own (by (try simp only [List.append_assoc, List.cons_append, List.nil_append]); repeat (first | exact List.mem_cons_self | exact List.mem_append_left _ (by assumption) | apply List.mem_cons_of_mem | apply List.mem_append_right)) | exact Sees.root (hR _ (by omega)) | exact Sees.own (RowsIn.mem (by (try simp only [List.append_assoc, List.cons_append, List.nil_append]); repeat (first | exact RowsIn.here | exact RowsIn.last | apply RowsIn.there | apply RowsIn.thereS)) _ (by omega)) | exact Sees.own (WRowsIn.mem (by (try simp only [List.append_assoc, List.cons_append, List.nil_append]); repeat (first | exact WRowsIn.here | exact WRowsIn.last | apply WRowsIn.there | apply WRowsIn.thereS)) _ (by omega))) (by first | rfl | omega | (push_cast; rfl) | (push_cast; omega) | exact tmod_nat _ _) (by exact sx_length _) (by omega)) ?_
      refine Dr.SW.p rfl (.inl rfl) rfl (by decide) (yq_load (u := .string (ss.getD k emB)) rfl fb9_Jr rfl (by first | exact Sees.root (by assumption) | exact Sees.own (by (try simp only [List.append_assoc, List.cons_append, List.nil_append]); repeat (first | exact List.mem_cons_self | exact List.mem_append_left _ (by assumption) | apply List.mem_cons_of_mem | apply List.mem_append_right)) | exact Sees.root (hR _ (by omega)) | exact Sees.own (RowsIn.mem (by (try simp only [List.append_assoc, List.cons_append, List.nil_append]); repeat (first | exact RowsIn.here | exact RowsIn.last | apply RowsIn.there | apply RowsIn.thereS)) _ (by omega)) | exact Sees.own (WRowsIn.mem (by (try simp only [List.append_assoc, List.cons_append, List.nil_append]); repeat (first | exact WRowsIn.here | exact WRowsIn.last | apply WRowsIn.there | apply WRowsIn.thereS)) _ (by omega))) (sx_get (by omega))) ?_
      refine Dr.SW.r rfl (.inl rfl) rfl (by decide) (yr_move rfl rfl) ?_
      refine Dr.SW.r rfl (.inl rfl) rfl (by decide) (yr_move rfl rfl) ?_
      refine Dr.SW.p rfl (.inl rfl) rfl (by decide) (yq_idx (k := k) rfl Tryd.underlying25 sz9_Jr rfl rfl (by first | exact Sees.root (by assumption) | exact Sees.own (by (try simp only [List.append_assoc, List.cons_append, List.nil_append]); repeat (first | exact List.mem_cons_self | exact List.mem_append_left _ (by assumption) | apply List.mem_cons_of_mem | apply List.mem_append_right)) | exact Sees.root (hR _ (by omega)) | exact Sees.own (RowsIn.mem (by (try simp only [List.append_assoc, List.cons_append, List.nil_append]); repeat (first | exact RowsIn.here | exact RowsIn.last | apply RowsIn.there | apply RowsIn.thereS)) _ (by omega)) | exact Sees.own (WRowsIn.mem (by (try simp only [List.append_assoc, List.cons_append, List.nil_append]); repeat (first | exact WRowsIn.here | exact WRowsIn.last | apply WRowsIn.there | apply WRowsIn.thereS)) _ (by omega))) (by first | rfl | omega | (push_cast; rfl) | (push_cast; omega) | exact tmod_nat _ _) (by exact sx_length _) (by omega)) ?_
      refine Dr.SW.p rfl (.inl rfl) rfl (by decide) (yq_load (u := .string (ss.getD k emB)) rfl fb9_Jr rfl (by first | exact Sees.root (by assumption) | exact Sees.own (by (try simp only [List.append_assoc, List.cons_append, List.nil_append]); repeat (first | exact List.mem_cons_self | exact List.mem_append_left _ (by assumption) | apply List.mem_cons_of_mem | apply List.mem_append_right)) | exact Sees.root (hR _ (by omega)) | exact Sees.own (RowsIn.mem (by (try simp only [List.append_assoc, List.cons_append, List.nil_append]); repeat (first | exact RowsIn.here | exact RowsIn.last | apply RowsIn.there | apply RowsIn.thereS)) _ (by omega)) | exact Sees.own (WRowsIn.mem (by (try simp only [List.append_assoc, List.cons_append, List.nil_append]); repeat (first | exact WRowsIn.here | exact WRowsIn.last | apply WRowsIn.there | apply WRowsIn.thereS)) _ (by omega))) (sx_get (by omega))) ?_
      refine Dr.SW.r rfl (.inl rfl) rfl (by decide) (yr_scmp rfl rfl rfl (.inr rfl)) ?_
      refine Dr.SW.done ?_
      refine Dr.eqO (by simp only [List.append_nil, List.append_assoc, List.cons_append, List.nil_append] <;> rfl) ?_
      refine VE.then_wp ?_
      refine V.cond rfl (fun h3 => ?_) (fun h3 => ?_)
      · skip
        refine V.seq ?_
        refine V.region ?_
        refine VL.r (.inl rfl) rfl (by decide) (yr_assign (u := .bool false) rfl rfl) ?_
        refine VL.nil ?_
        refine VE.then_wp ?_
        refine V.ret ?_
        refine VE.block_ret ?_
        refine VE.then_ret ?_
        refine VE.then_ret ?_
        refine VE.block_ret ?_
        refine VE.then_ret ?_
        refine ret1 rfl rfl (fun w1 hw => ?_)
        first
          | (exfalso; simp only [scmp_ne_self] at *; contradiction)
          | exact ⟨rfl, hw.below⟩
      · skip
        refine V.skip ?_
        refine VE.block_normal ?_
        refine VE.then_wp ?_
        refine V.region ?_
        refine VL.r (.inl rfl) rfl (by decide) (yr_move rfl rfl) ?_
        refine VL.r (.inl rfl) rfl (by decide) (yr_int rfl rfl rfl (.inl ⟨rfl, wrap_in (by omega)⟩)) ?_
        refine VL.r (.inl rfl) rfl (by decide) (yr_assign rfl rfl) ?_
        refine VL.nil ?_
        refine VE.round (k + 1) ?_ ?_ ?_ ?_ ?_
        · exact (.cons rfl .nil)
        · exact (.cons rfl (.cons rfl .nil))
        · exact (fun w hw => hw)
        · omega
        · (try dsimp only); omega
    · skip
      replace h2 := ic_lss' h2
      refine V.exit ?_
      refine VE.then_exit ?_
      refine VE.then_exit ?_
      refine VE.block_here ?_
      refine VE.then_wp ?_
      refine V.seq ?_
      refine V.region ?_
      refine VL.r (.inl rfl) rfl (by decide) (yr_assign (u := .bool true) rfl rfl) ?_
      refine VL.nil ?_
      refine VE.then_wp ?_
      refine V.ret ?_
      refine ret1 rfl rfl (fun w1 hw => ?_)
      first
        | (exfalso; simp only [scmp_ne_self] at *; contradiction)
        | exact ⟨rfl, hw.below⟩

theorem c_check {w : World} {c : Nat} {s : ByteArray} (hc : c < 65003) (hs : s.size ≤ 1048576) : Pure Tryd.prog 40 [.int .i64 (c : Int), .string s] w (.int .i64 ((chk c s : Nat) : Int)) := by
  refine Pure.enter Tryd.func40 rfl Tryd.ntmps40 (Nat.le_of_ble_eq_true rfl) ?_
  refine V.seq ?_
  refine V.region ?_
  refine VL.r (.inl rfl) rfl (by decide) (yr_assign (u := .int .i64 0) rfl rfl) ?_
  refine VL.nil ?_
  refine VE.then_wp ?_
  refine V.seq ?_
  refine V.seq ?_
  refine V.region ?_
  refine VL.r (.inl rfl) rfl (by decide) (yr_assign (u := .int .i64 0) rfl rfl) ?_
  refine VL.nil ?_
  refine VE.then_wp ?_
  refine V.block ?_
  refine V.loops (G := Nat) [(1, _)] (fun (k : Nat) => k ≤ s.size) (fun (k : Nat) => [(0, .int .i64 ((chkK c s k : Nat) : Int)), (5, .int .i64 (k : Int))]) (fun (k : Nat) => s.size - k) 0 (.cons rfl .nil) (.cons (by rw [chkK_0]; rfl) (.cons rfl .nil)) ?_ ?_
  · exact (Nat.zero_le _)
  rintro k hk
  show V _ _ _ _ ([(0, .int .i64 ((chkK c s k : Nat) : Int)), (5, .int .i64 (k : Int))] ++ [(1, _)]) _ _
  have hck := chkK_lt (s := s) hc k
  have hsb := sb_lt s k
  refine V.seq ?_
  refine V.seq ?_
  refine V.region ?_
  refine VL.r (.inl rfl) rfl (by decide) (yr_move rfl rfl) ?_
  refine VL.r (.inl rfl) rfl (by decide) (yr_move rfl rfl) ?_
  refine VL.r (.inl rfl) rfl (by decide) (yr_lenString rfl Tryd.underlying9 rfl) ?_
  refine VL.r (.inl rfl) rfl (by decide) (yr_icmp rfl (.inr (.inr (.inl rfl))) rfl rfl) ?_
  refine VL.nil ?_
  refine VE.then_wp ?_
  refine V.cond rfl (fun h1 => ?_) (fun h1 => ?_)
  · skip
    replace h1 := ic_lss h1
    refine V.skip ?_
    refine VE.then_wp ?_
    refine V.seq ?_
    refine V.block ?_
    refine V.region ?_
    refine VL.r (.inl rfl) rfl (by decide) (yr_move rfl rfl) ?_
    refine VL.r (.inl rfl) rfl (by decide) (yr_mulN 739 (chkK c s k) rfl rfl rfl rfl rfl (by omega)) ?_
    refine VL.r (.inl rfl) rfl (by decide) (yr_move rfl rfl) ?_
    refine VL.r (.inl rfl) rfl (by decide) (yr_move rfl rfl) ?_
    refine VL.r (.inl rfl) rfl (by decide) (yr_strByte (i := k) rfl Tryd.underlying9 rfl rfl (by first | rfl | omega | (push_cast; rfl) | (push_cast; omega)) (by omega)) ?_
    refine VL.r (.inl rfl) rfl (by decide) (yr_intConv rfl Tryd.underlying5 Tryd.underlying2 rfl (wrap_in (by omega))) ?_
    refine VL.r (.inl rfl) rfl (by decide) (yr_addN (739 * chkK c s k + sb s k) rfl rfl rfl (by omega) (by omega)) ?_
    refine VL.r (.inl rfl) rfl (by decide) (yr_addN (739 * chkK c s k + sb s k + 67) rfl rfl rfl (by omega) (by omega)) ?_
    refine VL.r (.inl rfl) rfl (by decide) (yr_remN (739 * chkK c s k + sb s k + 67) 65003 rfl rfl rfl rfl rfl (by omega)) ?_
    refine VL.r (.inl rfl) rfl (by decide) (yr_assign rfl rfl) ?_
    refine VL.nil ?_
    refine VE.block_normal ?_
    refine VE.then_wp ?_
    refine V.region ?_
    refine VL.r (.inl rfl) rfl (by decide) (yr_move rfl rfl) ?_
    refine VL.r (.inl rfl) rfl (by decide) (yr_int rfl rfl rfl (.inl ⟨rfl, wrap_in (by omega)⟩)) ?_
    refine VL.r (.inl rfl) rfl (by decide) (yr_assign rfl rfl) ?_
    refine VL.nil ?_
    refine VE.round (k + 1) ?_ ?_ ?_ ?_ ?_
    · exact (.cons (by rw [chkK_s]; rfl) (.cons rfl .nil))
    · exact (.cons rfl .nil)
    · exact (fun w hw => hw)
    · omega
    · (try dsimp only); omega
  · skip
    replace h1 := ic_lss' h1
    refine V.exit ?_
    refine VE.then_exit ?_
    refine VE.then_exit ?_
    refine VE.block_here ?_
    refine VE.then_wp ?_
    refine V.seq ?_
    refine V.region ?_
    refine VL.r (.inl rfl) rfl (by decide) (yr_move rfl rfl) ?_
    refine VL.r (.inl rfl) rfl (by decide) (yr_assign rfl rfl) ?_
    refine VL.nil ?_
    refine VE.then_wp ?_
    refine V.ret ?_
    refine ret1 rfl rfl (fun w1 hw => ?_)
    obtain rfl : k = s.size := by omega
    exact ⟨rfl, hw.below⟩

theorem c_checkOf {w : World} {c : Nat} {s : ByteArray} (hc : c < 65003) (hs : s.size ≤ 1048576) : Pure Tryd.prog 26 [.int .i64 (c : Int), .string s] w (.tuple #[.int .i64 ((chk c s : Nat) : Int), .bool true]) := by
  refine Pure.enter Tryd.func26 rfl Tryd.ntmps26 (Nat.le_of_ble_eq_true rfl) ?_
  refine V.seq ?_
  refine V.region ?_
  refine VL.r (.inl rfl) rfl (by decide) (yr_assign (u := .int .i64 0) rfl rfl) ?_
  refine VL.r (.inl rfl) rfl (by decide) (yr_assign (u := .bool false) rfl rfl) ?_
  refine VL.nil ?_
  refine VE.then_wp ?_
  refine V.seq ?_
  refine V.seq ?_
  refine V.region ?_
  refine VL.r (.inl rfl) rfl (by decide) (yr_move rfl rfl) ?_
  refine VL.q (.inl rfl) rfl (by decide) (yq_callf rfl known43_Jr (.cons rfl (.cons rfl (.cons rfl .nil))) (fun w hw => c_within)) ?_
  refine VL.r (.inl rfl) rfl (by decide) (yr_not rfl rfl) ?_
  refine VL.nil ?_
  refine VE.then_wp ?_
  refine V.cond rfl (fun h1 => ?_) (fun h1 => ?_)
  · skip
    replace h1 := bnot_t h1
    exfalso; simp at h1; omega
  · skip
    replace h1 := bnot_f h1
    refine V.skip ?_
    refine VE.then_wp ?_
    refine V.seq ?_
    refine V.seq ?_
    refine V.region ?_
    refine VL.r (.inl rfl) rfl (by decide) (yr_move rfl rfl) ?_
    refine VL.r (.inl rfl) rfl (by decide) (yr_lenString rfl Tryd.underlying9 rfl) ?_
    refine VL.r (.inl rfl) rfl (by decide) (yr_move (u := .int .i64 0) rfl rfl) ?_
    refine VL.nil ?_
    refine VE.then_wp ?_
    refine V.block ?_
    refine V.loops (G := Nat) [(1, _), (11, _)] (fun (k : Nat) => k ≤ s.size) (fun (k : Nat) => [(0, .int .i64 ((chkK c s k : Nat) : Int)), (12, .int .i64 (k : Int))]) (fun (k : Nat) => s.size - k) 0 (.cons rfl (.cons rfl .nil)) (.cons (by rw [chkK_0]; rfl) (.cons rfl .nil)) ?_ ?_
    · exact (Nat.zero_le _)
    rintro k hk
    show V _ _ _ _ ([(0, .int .i64 ((chkK c s k : Nat) : Int)), (12, .int .i64 (k : Int))] ++ [(1, _), (11, _)]) _ _
    have hck := chkK_lt (s := s) hc k
    have hsb := sb_lt s k
    refine V.seq ?_
    refine V.region ?_
    refine VL.r (.inl rfl) rfl (by decide) (yr_icmp rfl (.inr (.inr (.inl rfl))) rfl rfl) ?_
    refine VL.nil ?_
    refine VE.then_wp ?_
    refine V.seq ?_
    refine V.cond rfl (fun h2 => ?_) (fun h2 => ?_)
    · skip
      replace h2 := ic_lss h2
      refine V.skip ?_
      refine VE.then_wp ?_
      refine V.seq ?_
      refine V.block ?_
      refine V.seq ?_
      refine V.region ?_
      refine VL.r (.inl rfl) rfl (by decide) (yr_move rfl rfl) ?_
      refine VL.r (.inl rfl) rfl (by decide) (yr_assign rfl rfl) ?_
      refine VL.nil ?_
      refine VE.then_wp ?_
      refine V.region ?_
      refine VL.r (.inl rfl) rfl (by decide) (yr_move rfl rfl) ?_
      refine VL.r (.inl rfl) rfl (by decide) (yr_mulN 739 (chkK c s k) rfl rfl rfl rfl rfl (by omega)) ?_
      refine VL.r (.inl rfl) rfl (by decide) (yr_move rfl rfl) ?_
      refine VL.r (.inl rfl) rfl (by decide) (yr_move rfl rfl) ?_
      refine VL.r (.inl rfl) rfl (by decide) (yr_strByte (i := k) rfl Tryd.underlying9 rfl rfl (by first | rfl | omega | (push_cast; rfl) | (push_cast; omega)) (by omega)) ?_
      refine VL.r (.inl rfl) rfl (by decide) (yr_intConv rfl Tryd.underlying5 Tryd.underlying2 rfl (wrap_in (by omega))) ?_
      refine VL.r (.inl rfl) rfl (by decide) (yr_addN (739 * chkK c s k + sb s k) rfl rfl rfl (by omega) (by omega)) ?_
      refine VL.r (.inl rfl) rfl (by decide) (yr_addN (739 * chkK c s k + sb s k + 67) rfl rfl rfl (by omega) (by omega)) ?_
      refine VL.r (.inl rfl) rfl (by decide) (yr_remN (739 * chkK c s k + sb s k + 67) 65003 rfl rfl rfl rfl rfl (by omega)) ?_
      refine VL.r (.inl rfl) rfl (by decide) (yr_assign rfl rfl) ?_
      refine VL.nil ?_
      refine VE.block_normal ?_
      refine VE.then_wp ?_
      refine V.region ?_
      refine VL.r (.inl rfl) rfl (by decide) (yr_int rfl rfl rfl (.inl ⟨rfl, wrap_in (by omega)⟩)) ?_
      refine VL.r (.inl rfl) rfl (by decide) (yr_move rfl rfl) ?_
      refine VL.nil ?_
      refine VE.round (k + 1) ?_ ?_ ?_ ?_ ?_
      · exact (.cons (by rw [chkK_s]; rfl) (.cons rfl .nil))
      · exact (.cons rfl (.cons rfl .nil))
      · exact (fun w hw => hw)
      · omega
      · (try dsimp only); omega
    · skip
      replace h2 := ic_lss' h2
      refine V.exit ?_
      refine VE.then_exit ?_
      refine VE.then_exit ?_
      refine VE.block_here ?_
      refine VE.then_wp ?_
      refine V.seq ?_
      refine V.region ?_
      refine VL.r (.inl rfl) rfl (by decide) (yr_move rfl rfl) ?_
      refine VL.r (.inl rfl) rfl (by decide) (yr_assign rfl rfl) ?_
      refine VL.r (.inl rfl) rfl (by decide) (yr_assign (u := .bool true) rfl rfl) ?_
      refine VL.nil ?_
      refine VE.then_wp ?_
      refine V.ret ?_
      refine ret2 rfl rfl rfl (by nofun) (by nofun) (fun w1 hw => ?_)
      obtain rfl : k = s.size := by omega
      exact ⟨rfl, hw.below⟩

theorem c_dec {w : World} {n : Nat} (hn : n ≤ 100000) : Pure Tryd.prog 41 [.int .i64 (n : Int)] w (.string (dec n)) := by
  refine Pure.enter Tryd.func41 rfl Tryd.ntmps41 (Nat.le_of_ble_eq_true rfl) ?_
  refine V.seq ?_
  refine V.region ?_
  refine VL.r (.inl rfl) rfl (by decide) (yr_assign rfl rfl) ?_
  refine VL.nil ?_
  refine VE.then_wp ?_
  refine V.seq ?_
  refine V.region ?_
  refine VL.new1 (.inl rfl) rfl (by decide) (yn_lit rfl Tryd.underlying34 elt5_Jr rfl (by decide) .nil (by first | (simp; done) | (simp [cn, cn1, cn0]; done)) rfl rfl rfl) ?_
  intro b6
  refine VL.r (.inl rfl) rfl (by decide) (yr_assign rfl rfl) ?_
  refine VL.nil ?_
  refine VE.then_wp ?_
  refine V.seq ?_
  refine V.region ?_
  refine VL.r (.inl rfl) rfl (by decide) (yr_move rfl rfl) ?_
  refine VL.r (.inl rfl) rfl (by decide) (yr_assign rfl rfl) ?_
  refine VL.nil ?_
  refine VE.then_wp ?_
  refine V.seq ?_
  refine V.block ?_
  refine V.loopc (G := Nat × (List Int) × Nat × (Option Addr) × Nat) [(0, _)] (fun ⟨v, t, z, ar, cr⟩ => DecI n v t ∧ t.length = z ∧ v ≤ n) (fun ⟨v, t, z, ar, cr⟩ => [⟨ar, bl t, cr * 1, 5⟩]) (fun ⟨v, t, z, ar, cr⟩ => [(3, .slice ar z cr), (4, .int .i64 (v : Int))]) (fun ⟨v, t, z, ar, cr⟩ => v + (1 - z)) (n, [], 0, some ⟨b6, 0, none⟩, 0) (.cons rfl .nil) (.cons rfl (.cons rfl .nil)) ?_ ?_ ?_
  · exact (fun w hw => hw)
  · exact (by exact ⟨decI_0 n, rfl, Nat.le_refl _⟩)
  rintro ⟨v, t, z, ar, cr⟩ ⟨hD, hz9, hv9⟩
  show V _ _ _ [⟨ar, bl t, cr * 1, 5⟩] ([(3, .slice ar z cr), (4, .int .i64 (v : Int))] ++ [(0, _)]) _ _
  refine V.seq ?_
  refine V.seq ?_
  refine V.region ?_
  refine VL.r (.inl rfl) rfl (by decide) (yr_move rfl rfl) ?_
  refine VL.r (.inl rfl) rfl (by decide) (yr_len rfl Tryd.underlying34 rfl) ?_
  refine VL.r (.inl rfl) rfl (by decide) (yr_icmp rfl (.inl rfl) rfl rfl) ?_
  refine VL.r (.inl rfl) rfl (by decide) (yr_move rfl rfl) ?_
  refine VX.split 11 _ rfl (fun h1 => ?_) (fun h1 => ?_)
  · skip
    replace h1 := ic_eql h1
    refine VL.no rfl rfl rfl rfl rfl (by decide) ?_
    refine VL.no rfl rfl rfl rfl rfl (by decide) ?_
    refine VL.r (.inl rfl) rfl (by decide) (yr_pick_t (u := .bool true) rfl rfl rfl) ?_
    refine VL.nil ?_
    refine VE.then_wp ?_
    refine V.condT rfl ?_
    refine V.skip ?_
    refine VE.then_wp ?_
    refine V.block ?_
    refine V.seq ?_
    refine V.region ?_
    refine VL.r (.inl rfl) rfl (by decide) (yr_move rfl rfl) ?_
    refine VL.r (.inl rfl) rfl (by decide) (yr_remN (v) 10 rfl rfl rfl rfl rfl (by omega)) ?_
    refine VL.r (.inl rfl) rfl (by decide) (yr_assign rfl rfl) ?_
    refine VL.nil ?_
    refine VE.then_wp ?_
    refine V.seq ?_
    refine V.seq ?_
    refine V.region ?_
    refine VL.r (.inl rfl) rfl (by decide) (yr_move rfl rfl) ?_
    refine VL.r (.inl rfl) rfl (by decide) (yr_icmp rfl (.inr (.inr (.inl rfl))) rfl rfl) ?_
    refine VL.nil ?_
    refine VE.then_wp ?_
    refine V.cond rfl (fun h3 => ?_) (fun h3 => ?_)
    · skip
      replace h3 := ic_lss h3
      exfalso; omega
    · skip
      replace h3 := ic_lss' h3
      refine V.skip ?_
      refine VE.then_wp ?_
      refine V.seq ?_
      refine V.region ?_
      refine VL.r (.inl rfl) rfl (by decide) (yr_move rfl rfl) ?_
      refine VL.r (.inl rfl) rfl (by decide) (yr_addN (48 + v % 10) rfl rfl rfl (by omega) (by omega)) ?_
      refine VL.r (.inl rfl) rfl (by decide) (yr_intConv rfl Tryd.underlying2 Tryd.underlying5 rfl (u8_nat (by omega))) ?_
      refine VL.new1 (.inl rfl) rfl (by decide) (yn_lit rfl Tryd.underlying34 elt5_Jr rfl (by decide) (.cons rfl .nil) (by first | (simp; done) | (simp [cn, cn1, cn0]; done)) rfl rfl rfl) ?_
      intro b24
      refine VL.r (.inl rfl) rfl (by decide) (yr_move rfl rfl) ?_
      refine VL.c (.inl rfl) rfl (by decide) (yc_appendz 1 rfl rfl Tryd.underlying34 elt5_Jr rfl rfl (by repeat (first | exact UpdF.here | apply UpdF.there | apply UpdF.thereS)) (by first | exact Sees.root (by assumption) | exact Sees.own (by repeat (first | exact List.mem_cons_self | exact List.mem_append_left _ (by assumption) | apply List.mem_cons_of_mem | apply List.mem_append_right)) | exact Sees.root (hR _ (by omega)) | exact Sees.own (RowsIn.mem (by repeat (first | exact RowsIn.here | exact RowsIn.last | apply RowsIn.there | apply RowsIn.thereS)) _ (by omega)) | exact Sees.own (WRowsIn.mem (by repeat (first | exact WRowsIn.here | exact WRowsIn.last | apply WRowsIn.there | apply WRowsIn.thereS)) _ (by omega))) rfl (by simp) (by rw [bl_length]; omega) (by first | rfl | exact bl_scal _) (by first | rfl | exact bl_scal _) (by have := decI_len hD; first | omega | (simp; omega)) (by have := decI_len hD; first | omega | (simp; omega))) ?_
      rintro ⟨a26, c26⟩
      refine VL.r (.inl rfl) rfl (by decide) (yr_assign rfl rfl) ?_
      refine VL.nil ?_
      refine VE.then_wp ?_
      refine V.region ?_
      refine VL.r (.inl rfl) rfl (by decide) (yr_move rfl rfl) ?_
      refine VL.r (.inl rfl) rfl (by decide) (yr_quoN (v) 10 rfl rfl rfl rfl rfl (by omega) (by omega)) ?_
      refine VL.r (.inl rfl) rfl (by decide) (yr_assign rfl rfl) ?_
      refine VL.nil ?_
      refine VE.block_normal ?_
      refine VE.round (v / 10, ((48 + v % 10 : Nat) : Int) :: t, z + 1, a26, c26) ?_ ?_ ?_ ?_ ?_
      · exact (.cons (congrArg (fun n => some (Value.slice _ n _)) (by omega)) (.cons rfl .nil))
      · exact (.cons rfl .nil)
      · exact (fun w hw => by dsimp only; exact hw.pick (by apply Pick.one; repeat (first | exact Rem.here | apply Rem.there)))
      · exact ⟨decI_step hD (by omega), by rw [List.length_cons, hz9], by omega⟩
      · (try dsimp only); omega
  · skip
    replace h1 := ic_eql' h1
    refine VL.r (.inr ⟨_, _, _, rfl, rfl, rfl⟩) rfl (by decide) (yr_move rfl rfl) ?_
    refine VL.r (.inr ⟨_, _, _, rfl, rfl, rfl⟩) rfl (by decide) (yr_icmp rfl (.inr (.inl rfl)) rfl rfl) ?_
    refine VL.r (.inl rfl) rfl (by decide) (yr_pick_f rfl rfl rfl) ?_
    refine VL.nil ?_
    refine VE.then_wp ?_
    refine V.cond rfl (fun h4 => ?_) (fun h4 => ?_)
    · skip
      replace h4 := ic_neq h4
      refine V.skip ?_
      refine VE.then_wp ?_
      refine V.block ?_
      refine V.seq ?_
      refine V.region ?_
      refine VL.r (.inl rfl) rfl (by decide) (yr_move rfl rfl) ?_
      refine VL.r (.inl rfl) rfl (by decide) (yr_remN (v) 10 rfl rfl rfl rfl rfl (by omega)) ?_
      refine VL.r (.inl rfl) rfl (by decide) (yr_assign rfl rfl) ?_
      refine VL.nil ?_
      refine VE.then_wp ?_
      refine V.seq ?_
      refine V.seq ?_
      refine V.region ?_
      refine VL.r (.inl rfl) rfl (by decide) (yr_move rfl rfl) ?_
      refine VL.r (.inl rfl) rfl (by decide) (yr_icmp rfl (.inr (.inr (.inl rfl))) rfl rfl) ?_
      refine VL.nil ?_
      refine VE.then_wp ?_
      refine V.cond rfl (fun h5 => ?_) (fun h5 => ?_)
      · skip
        replace h5 := ic_lss h5
        exfalso; omega
      · skip
        replace h5 := ic_lss' h5
        refine V.skip ?_
        refine VE.then_wp ?_
        refine V.seq ?_
        refine V.region ?_
        refine VL.r (.inl rfl) rfl (by decide) (yr_move rfl rfl) ?_
        refine VL.r (.inl rfl) rfl (by decide) (yr_addN (48 + v % 10) rfl rfl rfl (by omega) (by omega)) ?_
        refine VL.r (.inl rfl) rfl (by decide) (yr_intConv rfl Tryd.underlying2 Tryd.underlying5 rfl (u8_nat (by omega))) ?_
        refine VL.new1 (.inl rfl) rfl (by decide) (yn_lit rfl Tryd.underlying34 elt5_Jr rfl (by decide) (.cons rfl .nil) (by first | (simp; done) | (simp [cn, cn1, cn0]; done)) rfl rfl rfl) ?_
        intro b24
        refine VL.r (.inl rfl) rfl (by decide) (yr_move rfl rfl) ?_
        refine VL.c (.inl rfl) rfl (by decide) (yc_appendz 1 rfl rfl Tryd.underlying34 elt5_Jr rfl rfl (by repeat (first | exact UpdF.here | apply UpdF.there | apply UpdF.thereS)) (by first | exact Sees.root (by assumption) | exact Sees.own (by repeat (first | exact List.mem_cons_self | exact List.mem_append_left _ (by assumption) | apply List.mem_cons_of_mem | apply List.mem_append_right)) | exact Sees.root (hR _ (by omega)) | exact Sees.own (RowsIn.mem (by repeat (first | exact RowsIn.here | exact RowsIn.last | apply RowsIn.there | apply RowsIn.thereS)) _ (by omega)) | exact Sees.own (WRowsIn.mem (by repeat (first | exact WRowsIn.here | exact WRowsIn.last | apply WRowsIn.there | apply WRowsIn.thereS)) _ (by omega))) rfl (by simp) (by rw [bl_length]; omega) (by first | rfl | exact bl_scal _) (by first | rfl | exact bl_scal _) (by have := decI_len hD; first | omega | (simp; omega)) (by have := decI_len hD; first | omega | (simp; omega))) ?_
        rintro ⟨a26, c26⟩
        refine VL.r (.inl rfl) rfl (by decide) (yr_assign rfl rfl) ?_
        refine VL.nil ?_
        refine VE.then_wp ?_
        refine V.region ?_
        refine VL.r (.inl rfl) rfl (by decide) (yr_move rfl rfl) ?_
        refine VL.r (.inl rfl) rfl (by decide) (yr_quoN (v) 10 rfl rfl rfl rfl rfl (by omega) (by omega)) ?_
        refine VL.r (.inl rfl) rfl (by decide) (yr_assign rfl rfl) ?_
        refine VL.nil ?_
        refine VE.block_normal ?_
        refine VE.round (v / 10, ((48 + v % 10 : Nat) : Int) :: t, z + 1, a26, c26) ?_ ?_ ?_ ?_ ?_
        · exact (.cons (congrArg (fun n => some (Value.slice _ n _)) (by omega)) (.cons rfl .nil))
        · exact (.cons rfl .nil)
        · exact (fun w hw => by dsimp only; exact hw.pick (by apply Pick.one; repeat (first | exact Rem.here | apply Rem.there)))
        · exact ⟨decI_step hD (by omega), by rw [List.length_cons, hz9], by omega⟩
        · (try dsimp only); omega
    · skip
      replace h4 := ic_neq' h4
      refine V.exit ?_
      refine VE.then_exit ?_
      refine VE.then_exit ?_
      refine VE.block_here ?_
      refine VE.then_wp ?_
      refine V.seq ?_
      refine V.seq ?_
      refine V.region ?_
      refine VL.r (.inl rfl) rfl (by decide) (yr_move rfl rfl) ?_
      refine VL.r (.inl rfl) rfl (by decide) (yr_icmp rfl (.inr (.inr (.inl rfl))) rfl rfl) ?_
      refine VL.nil ?_
      refine VE.then_wp ?_
      refine V.cond rfl (fun h6 => ?_) (fun h6 => ?_)
      · skip
        replace h6 := ic_lss h6
        exfalso; omega
      · skip
        replace h6 := ic_lss' h6
        refine V.skip ?_
        refine VE.then_wp ?_
        refine V.seq ?_
        refine V.region ?_
        refine VL.r (.inl rfl) rfl (by decide) (yr_move rfl rfl) ?_
        refine VL.q (.inl rfl) rfl (by decide) (yq_bts (bs := t) rfl Tryd.underlying34 Tryd.underlying5 Tryd.underlying9 rfl (by first | exact Sees.root (by assumption) | exact Sees.own (by repeat (first | exact List.mem_cons_self | exact List.mem_append_left _ (by assumption) | apply List.mem_cons_of_mem | apply List.mem_append_right)) | exact Sees.root (hR _ (by omega)) | exact Sees.own (RowsIn.mem (by repeat (first | exact RowsIn.here | exact RowsIn.last | apply RowsIn.there | apply RowsIn.thereS)) _ (by omega)) | exact Sees.own (WRowsIn.mem (by repeat (first | exact WRowsIn.here | exact WRowsIn.last | apply WRowsIn.there | apply WRowsIn.thereS)) _ (by omega))) (by omega)) ?_
        refine VL.r (.inl rfl) rfl (by decide) (yr_assign rfl rfl) ?_
        refine VL.nil ?_
        refine VE.then_wp ?_
        refine V.ret ?_
        refine ret1 rfl rfl (fun w1 hw => ?_)
        obtain rfl : v = 0 := by omega
        exact ⟨by rw [decI_end hD (by omega)]; rfl, hw.below⟩

theorem c_fmtInt {w : World} {n : Nat} (hT : Go.Lib.TabIs Tryd.prog w "internal/strconv.uint64pow10" .u64 Go.Lib.pow10Tab) (hn : n ≤ 9223372036854775807) : Pure Tryd.prog 45 [.int .i64 (n : Int), .int .i64 10] w (.string (dec n)) := by
  intro vs hv
  obtain rfl := int_args2 hv
  refine (Tryd.strconv_FormatInt_10 (n : Int) (by omega) (by omega) w hT).mono ?_
  rintro e w' ⟨rfl, k, os, rfl⟩
  exact ⟨_, rfl, by rw [itoa_dec]; rfl, Go.Lib.below_grow _ _ (Nat.le_refl _) _ _⟩
theorem c_decimal {w : World} {n : Nat} (hT : Go.Lib.TabIs Tryd.prog w "internal/strconv.uint64pow10" .u64 Go.Lib.pow10Tab) (hn : n ≤ 100000) : Pure Tryd.prog 28 [.int .i64 (n : Int)] w (.string (dec n)) := by
  refine Pure.enter Tryd.func28 rfl Tryd.ntmps28 (Nat.le_of_ble_eq_true rfl) ?_
  refine V.seq ?_
  refine V.region ?_
  refine VL.r (.inl rfl) rfl (by decide) (yr_assign rfl rfl) ?_
  refine VL.nil ?_
  refine VE.then_wp ?_
  refine V.seq ?_
  refine V.region ?_
  refine VL.r (.inl rfl) rfl (by decide) (yr_move rfl rfl) ?_
  refine VL.q (.inl rfl) rfl (by decide) (yq_callf rfl known45_Jr (.cons rfl (.cons rfl .nil)) (fun w hw => (c_fmtInt (tab_keep hT hw.below) (by omega)))) ?_
  refine VL.r (.inl rfl) rfl (by decide) (yr_assign rfl rfl) ?_
  refine VL.nil ?_
  refine VE.then_wp ?_
  refine V.ret ?_
  refine ret1 rfl rfl (fun w1 hw => ?_)
  exact ⟨rfl, hw.below⟩

end Go.Proofs.YtmecikeaogjmpaaDoor


namespace Go.Proofs.YtmecikeaogjmpaaDoor
open Go.RowKit Go.Lib
def hasNL (l : ByteArray) : Bool := decide (0 ≤ indexByte l.data.toList 10)
theorem nl_yes {l : ByteArray} {j : Nat} (hj : j < l.size) (hb : sb l j = 10) : hasNL l = true := by
  unfold hasNL
  obtain ⟨b, e1, e2⟩ := list_at hj
  have e3 : b = 10 := UInt8.toNat_inj.1 (by rw [← e2, hb]; rfl)
  subst e3
  have hge := indexByte_ge l.data.toList 10
  have h0 : indexByte l.data.toList 10 ≠ -1 := fun e => by
    have h1 : (10 : UInt8) ∈ l.data.toList.drop j := by rw [e1]; simp
    exact index_none e (List.mem_of_mem_drop h1)
  exact decide_eq_true (by omega)
theorem nl_no {l : ByteArray} (h : ∀ j, j < l.size → sb l j ≠ 10) : hasNL l = false := by
  unfold hasNL
  refine decide_eq_false fun h1 => ?_
  obtain ⟨i, hi⟩ : ∃ i : Nat, indexByte l.data.toList 10 = i := ⟨(indexByte l.data.toList 10).toNat, by omega⟩
  obtain ⟨p, r, e, hl, _⟩ := index_parts hi
  have hil : i < l.size := by rw [size_eq, e]; simp; omega
  obtain ⟨b, f1, f2⟩ := list_at hil
  have f3 : l.data.toList.drop i = 10 :: r := by rw [e, ← hl]; simp
  rw [f1] at f3
  have f4 := (List.cons.inj f3).1
  exact h i hil (by rw [f2, f4]; rfl)
/-! ### the text -/
def ln1 (c : Nat) (l : ByteArray) : ByteArray := dec c ++ ⟨#[32]⟩ ++ l ++ ⟨#[10]⟩
def jC (ss : List ByteArray) : Nat → Nat
  | 0 => 0
  | k + 1 => chk (jC ss k) (ss.getD k emB)
def jT (ss : List ByteArray) : Nat → ByteArray
  | 0 => ⟨#[]⟩
  | k + 1 => jT ss k ++ ln1 (jC ss (k + 1)) (ss.getD k emB)
def tot (ss : List ByteArray) : Nat → Nat
  | 0 => 0
  | k + 1 => tot ss k + ((ss.getD k emB).size + 3)
theorem jT_s (ss : List ByteArray) (k : Nat) : jT ss (k + 1) = jT ss k ++ ln1 (jC ss (k + 1)) (ss.getD k emB) := rfl
theorem tot_s (ss : List ByteArray) (k : Nat) : tot ss (k + 1) = tot ss k + ((ss.getD k emB).size + 3) := rfl
theorem jC_lt (ss : List ByteArray) : ∀ k, jC ss k < 65003
  | 0 => Nat.zero_lt_succ _
  | k + 1 => chk_lt (jC_lt ss k)
theorem dec_size (n : Nat) : 1 ≤ (dec n).size ∧ (dec n).size ≤ n + 1 := by
  unfold dec
  rw [stb_size]
  refine ⟨?_, dN_len n n (Nat.le_refl _)⟩
  have := dN_ne n
  cases h : dN n with
  | nil => exact absurd h this
  | cons _ _ => simp
theorem app_size (a b : ByteArray) : (a ++ b).size = a.size + b.size := by simp
theorem ln1_size (c : Nat) (l : ByteArray) : (ln1 c l).size = (dec c).size + 1 + l.size + 1 := by
  unfold ln1
  rw [app_size, app_size, app_size]; rfl
theorem jT_lo (ss : List ByteArray) (k : Nat) : (jT ss k).size + ((ss.getD k emB).size + 3) ≤ (jT ss (k + 1)).size := by
  rw [jT_s, app_size, ln1_size]
  have := (dec_size (jC ss (k + 1))).1
  omega
theorem jT_hi (ss : List ByteArray) (k : Nat) : (jT ss (k + 1)).size ≤ (jT ss k).size + (ss.getD k emB).size + 65010 := by
  rw [jT_s, app_size, ln1_size]
  have := (dec_size (jC ss (k + 1))).2
  have := jC_lt ss (k + 1)
  omega
theorem tot_le (ss : List ByteArray) : ∀ k, tot ss k ≤ (jT ss k).size
  | 0 => Nat.zero_le _
  | k + 1 => by have h1 := jT_lo ss k; have h2 := tot_le ss k; rw [tot_s]; omega
theorem jT_mono (ss : List ByteArray) : ∀ (n k : Nat), k ≤ n → (jT ss k).size ≤ (jT ss n).size
  | 0, k, h => by rw [show k = 0 by omega]; exact Nat.le_refl _
  | n + 1, k, h => by
    by_cases e : k = n + 1
    · rw [e]; exact Nat.le_refl _
    · have h1 := jT_mono ss n k (by omega)
      have h2 := jT_lo ss n
      omega
theorem jT_bd (ss : List ByteArray) : ∀ k, (jT ss k).size ≤ tot ss k + k * 65010
  | 0 => Nat.zero_le _
  | k + 1 => by have h1 := jT_hi ss k; have h2 := jT_bd ss k; rw [tot_s]; omega
theorem tot_k (ss : List ByteArray) : ∀ k, k * 3 ≤ tot ss k
  | 0 => Nat.zero_le _
  | k + 1 => by have h2 := tot_k ss k; rw [tot_s]; omega
def noNL (ss : List ByteArray) : Nat → Bool
  | 0 => true
  | k + 1 => noNL ss k && !hasNL (ss.getD k emB)
def jOk (ss : List ByteArray) : Bool := noNL ss ss.length && decide ((jT ss ss.length).size ≤ 12000)
def jR (ss : List ByteArray) : ByteArray := if jOk ss then jT ss ss.length else ⟨#[]⟩
theorem noNL_0 (ss : List ByteArray) : noNL ss 0 = true := rfl
theorem noNL_y {ss : List ByteArray} {k : Nat} (h : noNL ss k = true) (h2 : hasNL (ss.getD k emB) = false) : noNL ss (k + 1) = true := by rw [noNL, h, h2]; rfl
theorem noNL_n {ss : List ByteArray} {k : Nat} (h : hasNL (ss.getD k emB) = true) : ∀ n, k < n → noNL ss n = false
  | 0, hk => absurd hk (Nat.not_lt_zero _)
  | n + 1, hk => by
    rw [noNL]
    by_cases e : k = n
    · rw [← e, h]; simp
    · rw [noNL_n h n (by omega)]; rfl
theorem j_bad1 {ss : List ByteArray} {k : Nat} (hk : k < ss.length) (h : hasNL (ss.getD k emB) = true) : jOk ss = false ∧ jR ss = ⟨#[]⟩ := by
  have h1 : jOk ss = false := by unfold jOk; rw [noNL_n h _ hk]; rfl
  exact ⟨h1, by unfold jR; rw [h1]; rfl⟩
theorem j_bad2 {ss : List ByteArray} {k : Nat} (hk : k ≤ ss.length) (h : 12000 < (jT ss k).size) : jOk ss = false ∧ jR ss = ⟨#[]⟩ := by
  have h2 := jT_mono ss ss.length k hk
  have h1 : jOk ss = false := by unfold jOk; rw [decide_eq_false (by omega), Bool.and_false]
  exact ⟨h1, by unfold jR; rw [h1]; rfl⟩
theorem j_bad3 {ss : List ByteArray} {k : Nat} (hk : k ≤ ss.length) (h : 12000 < tot ss k) : jOk ss = false ∧ jR ss = ⟨#[]⟩ := j_bad2 hk (Nat.lt_of_lt_of_le h (tot_le ss k))
theorem j_good {ss : List ByteArray} (h : noNL ss ss.length = true) (h2 : (jT ss ss.length).size ≤ 12000) : jOk ss = true ∧ jR ss = jT ss ss.length := by
  have h1 : jOk ss = true := by unfold jOk; rw [h, decide_eq_true h2]; rfl
  exact ⟨h1, by unfold jR; rw [h1]; rfl⟩
/-! ### the size of a list of texts -/
def sumS (ss : List ByteArray) : Nat → Nat
  | 0 => 0
  | k + 1 => sumS ss k + (ss.getD k emB).size
theorem sumS_0 (ss : List ByteArray) : sumS ss 0 = 0 := rfl
theorem sumS_s (ss : List ByteArray) (k : Nat) : sumS ss (k + 1) = sumS ss k + (ss.getD k emB).size := rfl
theorem sumS_mono (ss : List ByteArray) : ∀ (n k : Nat), k ≤ n → sumS ss k ≤ sumS ss n
  | 0, k, h => by rw [show k = 0 by omega]; exact Nat.le_refl _
  | n + 1, k, h => by
    by_cases e : k = n + 1
    · rw [e]; exact Nat.le_refl _
    · have h1 := sumS_mono ss n k (by omega)
      rw [sumS_s]
      omega
def szS (n : Nat) (ss : List ByteArray) : Int := if n < ss.length + sumS ss ss.length then -1 else (n : Int) - ss.length - sumS ss ss.length
theorem szS_no {n : Nat} {ss : List ByteArray} (h : n < ss.length + sumS ss ss.length) : szS n ss = -1 := if_pos h
theorem szS_yes {n : Nat} {ss : List ByteArray} (h : ¬ n < ss.length + sumS ss ss.length) : szS n ss = (n : Int) - ss.length - sumS ss ss.length := if_neg h
theorem szS_fits {n : Nat} {ss : List ByteArray} (h : 0 ≤ szS n ss) : ss.length + sumS ss ss.length ≤ n := by
  by_cases h1 : n < ss.length + sumS ss ss.length
  · rw [szS_no h1] at h; omega
  · omega
theorem at_sum {ss : List ByteArray} {k : Nat} (h : k < ss.length) : (ss.getD k emB).size ≤ sumS ss ss.length := by
  have h1 := sumS_mono ss ss.length (k + 1) h
  rw [sumS_s] at h1
  omega
/-! ### copies -/
theorem takeS_set {xs ys : List ByteArray} {n i : Nat} (hl : ys.length = n) (hx : xs.length = n) (ht : ys.take i = xs.take i) (hi : i < n) : (ys.set i (xs.getD i emB)).take (i + 1) = xs.take (i + 1) := by
  apply List.ext_getElem?
  intro j
  have hj := congrArg (·[j]?) ht
  simp only [List.getElem?_take] at hj ⊢
  by_cases h1 : j < i
  · rw [if_pos h1, if_pos h1] at hj
    rw [if_pos (by omega), if_pos (by omega), List.getElem?_set_ne (by omega), hj]
  · by_cases h2 : j = i
    · subst h2
      rw [if_pos (by omega), if_pos (by omega), List.getElem?_set_self (by omega)]
      simp [List.getD, hx, hi]
    · rw [if_neg (by omega), if_neg (by omega)]
theorem takeS_all {xs ys : List ByteArray} {n i : Nat} (hl : ys.length = n) (hx : xs.length = n) (ht : ys.take i = xs.take i) (hi : n ≤ i) : ys = xs := by
  rwa [List.take_of_length_le (by omega), List.take_of_length_le (by omega)] at ht
theorem sx_blank (m : Nat) : cycle [Value.string ⟨#[]⟩] m = sx (List.replicate m emB) := by
  induction m with
  | zero => rfl
  | succ m ih => simp [cycle, ih, sx, emB, List.replicate_succ]
theorem tot_mono (ss : List ByteArray) : ∀ (n k : Nat), k ≤ n → tot ss k ≤ tot ss n
  | 0, k, h => by rw [show k = 0 by omega]; exact Nat.le_refl _
  | n + 1, k, h => by
    by_cases e : k = n + 1
    · rw [e]; exact Nat.le_refl _
    · have h1 := tot_mono ss n k (by omega)
      rw [tot_s]
      omega
theorem tot_at {ss : List ByteArray} {k n : Nat} (h : k < n) : (ss.getD k emB).size ≤ tot ss n := by
  have h1 := tot_mono ss n (k + 1) h
  rw [tot_s] at h1
  omega
theorem cat_bd {a b : ByteArray} (h1 : a.size ≤ 1000000000) (h2 : b.size ≤ 1000000000) : a.size + b.size ≤ 9223372036854775807 := by omega
theorem jo_bd {ss : List ByteArray} {k : Nat} (hl : ss.length ≤ 4000) (hz : tot ss ss.length ≤ 12000) (hk : k < ss.length) :
    (ss.getD k emB).size ≤ 12000 ∧ (dec (chk (jC ss k) (ss.getD k emB))).size ≤ 66000 ∧ (dec (chk (jC ss k) (ss.getD k emB)) ++ ⟨#[32]⟩).size ≤ 66001 ∧ (dec (chk (jC ss k) (ss.getD k emB)) ++ ⟨#[32]⟩ ++ ss.getD k emB).size ≤ 80000 ∧ (ln1 (chk (jC ss k) (ss.getD k emB)) (ss.getD k emB)).size ≤ 80001 ∧ (jT ss k).size ≤ 300000000 := by
  have h1 := tot_at (ss := ss) hk
  have h2 := (dec_size (chk (jC ss k) (ss.getD k emB))).2
  have h3 := chk_lt (s := ss.getD k emB) (jC_lt ss k)
  have h4 := jT_bd ss k
  have h5 := tot_mono ss ss.length k (by omega)
  have h6 : (⟨#[32]⟩ : ByteArray).size = 1 := rfl
  refine ⟨by omega, by omega, by rw [app_size]; omega, by rw [app_size, app_size]; omega, by rw [ln1_size]; omega, by omega⟩
end Go.Proofs.YtmecikeaogjmpaaDoor


namespace Go.Proofs.YtmecikeaogjmpaaDoor
open Go.RowKit
set_option linter.unusedVariables false
set_option linter.unusedSimpArgs false
set_option maxRecDepth 20000

theorem sz9_Jo : (Tryd.prog.info? 9).map (·.size) = some 1 := by kernel_rfl
theorem fb9_Jo : flatB Tryd.prog 9 = true := by kernel_rfl
theorem elt9_Jo : Elt Tryd.prog 9 [Value.string ⟨#[]⟩] 16 := Elt.mk' (by kernel_rfl) (by decide)
theorem known40_Jo : Known Tryd.prog 40 := Known.mk' Tryd.func40 (by kernel_rfl)
theorem mixed_Jo : Tryd.prog.follows .mixedOrders = true := by kernel_rfl
theorem known41_Jo : Known Tryd.prog 41 := Known.mk' Tryd.func41 (by kernel_rfl)
theorem known24_Jo : Known Tryd.prog 24 := Known.mk' Tryd.func24 (by kernel_rfl)
attribute [local irreducible] mt dN chkK chk num txt fnd good go recO recN rO rN rB scmp List.getD stb dec szS hasNL jR jOk

theorem c_szStr {w : World} {a : Option Addr} {c : Nat} {ss : List ByteArray} (hA : Cl w a (sx ss)) (hm : ss.length ≤ 9223372036854775807) (hr : ∀ i, i < ss.length → (ss.getD i emB).size ≤ 9223372036854775807) : Pure Tryd.prog 9 [.slice a ss.length c, .int .i64 1048576] w (.int .i64 (szS 1048576 ss)) := by
  refine Pure.enter Tryd.func9 rfl Tryd.ntmps9 (Nat.le_of_ble_eq_true rfl) ?_
  have h00 := sumS_0 ss
  refine V.seq ?_
  refine V.region ?_
  refine VL.r (.inl rfl) rfl (by decide) (yr_assign (u := .int .i64 0) rfl rfl) ?_
  refine VL.nil ?_
  refine VE.then_wp ?_
  refine V.seq ?_
  refine V.region ?_
  refine VL.r (.inl rfl) rfl (by decide) (yr_move rfl rfl) ?_
  refine VL.r (.inl rfl) rfl (by decide) (yr_move rfl rfl) ?_
  refine VL.r (.inl rfl) rfl (by decide) (yr_len rfl Tryd.underlying25 rfl) ?_
  refine VL.r (.inl rfl) rfl (by decide) (yr_int rfl rfl rfl (.inr (.inl ⟨rfl, wrap_in (by omega)⟩))) ?_
  refine VL.r (.inl rfl) rfl (by decide) (yr_assign rfl rfl) ?_
  refine VL.nil ?_
  refine VE.then_wp ?_
  refine V.seq ?_
  refine V.seq ?_
  refine V.region ?_
  refine VL.r (.inl rfl) rfl (by decide) (yr_move rfl rfl) ?_
  refine VL.r (.inl rfl) rfl (by decide) (yr_icmp rfl (.inr (.inr (.inl rfl))) rfl rfl) ?_
  refine VL.nil ?_
  refine VE.then_wp ?_
  refine V.cond rfl (fun h1 => ?_) (fun h1 => ?_)
  · skip
    replace h1 := ic_lss h1
    refine V.seq ?_
    refine V.region ?_
    refine VL.r (.inl rfl) rfl (by decide) (yr_assign (u := .int .i64 (-1)) rfl rfl) ?_
    refine VL.nil ?_
    refine VE.then_wp ?_
    refine V.ret ?_
    refine VE.then_ret ?_
    refine ret1 rfl rfl (fun w1 hw => ?_)
    exact ⟨by rw [szS_no (by omega)], hw.below⟩
  · skip
    replace h1 := ic_lss' h1
    refine V.skip ?_
    refine VE.then_wp ?_
    refine V.seq ?_
    refine V.seq ?_
    refine V.region ?_
    refine VL.r (.inl rfl) rfl (by decide) (yr_assign (u := .int .i64 0) rfl rfl) ?_
    refine VL.nil ?_
    refine VE.then_wp ?_
    refine V.block ?_
    refine V.loops (G := Nat) [(0, _)] (fun (k : Nat) => k ≤ ss.length ∧ ss.length + sumS ss k ≤ 1048576) (fun (k : Nat) => [(1, .int .i64 (1048576 - (ss.length : Int) - (sumS ss k : Nat))), (5, .int .i64 (k : Int))]) (fun (k : Nat) => ss.length - k) 0 (.cons rfl .nil) (.cons (congrArg (fun i => some (Value.int .i64 i)) (by omega)) (.cons rfl .nil)) ?_ ?_
    · exact (by exact ⟨Nat.zero_le _, by omega⟩)
    rintro k ⟨hk, hl9⟩
    show V _ _ _ _ ([(1, .int .i64 (1048576 - (ss.length : Int) - (sumS ss k : Nat))), (5, .int .i64 (k : Int))] ++ [(0, _)]) _ _
    have hrk := hr k
    have hss := sumS_s ss k
    refine V.seq ?_
    refine V.seq ?_
    refine V.region ?_
    refine VL.r (.inl rfl) rfl (by decide) (yr_move rfl rfl) ?_
    refine VL.r (.inl rfl) rfl (by decide) (yr_move rfl rfl) ?_
    refine VL.r (.inl rfl) rfl (by decide) (yr_len rfl Tryd.underlying25 rfl) ?_
    refine VL.r (.inl rfl) rfl (by decide) (yr_icmp rfl (.inr (.inr (.inl rfl))) rfl rfl) ?_
    refine VL.nil ?_
    refine VE.then_wp ?_
    refine V.cond rfl (fun h2 => ?_) (fun h2 => ?_)
    · skip
      replace h2 := ic_lss h2
      have hrk2 := hrk (by omega)
      refine V.skip ?_
      refine VE.then_wp ?_
      refine V.seq ?_
      refine V.block ?_
      refine V.seq ?_
      refine V.region ?_
      refine VL.r (.inl rfl) rfl (by decide) (yr_move rfl rfl) ?_
      refine VL.r (.inl rfl) rfl (by decide) (yr_move rfl rfl) ?_
      refine VL.r (.inl rfl) rfl (by decide) (yr_move rfl rfl) ?_
      refine VL.q (.inl rfl) rfl (by decide) (yq_idx (k := k) rfl Tryd.underlying25 sz9_Jo rfl rfl (by first | exact Sees.root (by assumption) | exact Sees.own (by repeat (first | exact List.mem_cons_self | exact List.mem_append_left _ (by assumption) | apply List.mem_cons_of_mem | apply List.mem_append_right)) | exact Sees.root (hR _ (by omega)) | exact Sees.own (RowsIn.mem (by repeat (first | exact RowsIn.here | exact RowsIn.last | apply RowsIn.there | apply RowsIn.thereS)) _ (by omega)) | exact Sees.own (WRowsIn.mem (by repeat (first | exact WRowsIn.here | exact WRowsIn.last | apply WRowsIn.there | apply WRowsIn.thereS)) _ (by omega))) (by first | rfl | omega | (push_cast; rfl) | (push_cast; omega) | exact tmod_nat _ _) (by first | exact sx_length _ | (rw [sx_length]; omega)) (by omega)) ?_
      refine VL.q (.inl rfl) rfl (by decide) (yq_load (u := .string (ss.getD k emB)) rfl fb9_Jo rfl (by first | exact Sees.root (by assumption) | exact Sees.own (by repeat (first | exact List.mem_cons_self | exact List.mem_append_left _ (by assumption) | apply List.mem_cons_of_mem | apply List.mem_append_right)) | exact Sees.root (hR _ (by omega)) | exact Sees.own (RowsIn.mem (by repeat (first | exact RowsIn.here | exact RowsIn.last | apply RowsIn.there | apply RowsIn.thereS)) _ (by omega)) | exact Sees.own (WRowsIn.mem (by repeat (first | exact WRowsIn.here | exact WRowsIn.last | apply WRowsIn.there | apply WRowsIn.thereS)) _ (by omega))) (sx_get (by omega))) ?_
      refine VL.r (.inl rfl) rfl (by decide) (yr_lenString rfl Tryd.underlying9 rfl) ?_
      refine VL.r (.inl rfl) rfl (by decide) (yr_int rfl rfl rfl (.inr (.inl ⟨rfl, wrap_in (by omega)⟩))) ?_
      refine VL.r (.inl rfl) rfl (by decide) (yr_assign rfl rfl) ?_
      refine VL.nil ?_
      refine VE.then_wp ?_
      refine V.seq ?_
      refine V.region ?_
      refine VL.r (.inl rfl) rfl (by decide) (yr_move rfl rfl) ?_
      refine VL.r (.inl rfl) rfl (by decide) (yr_icmp rfl (.inr (.inr (.inl rfl))) rfl rfl) ?_
      refine VL.nil ?_
      refine VE.then_wp ?_
      refine V.cond rfl (fun h3 => ?_) (fun h3 => ?_)
      · skip
        replace h3 := ic_lss h3
        refine V.seq ?_
        refine V.region ?_
        refine VL.r (.inl rfl) rfl (by decide) (yr_assign (u := .int .i64 (-1)) rfl rfl) ?_
        refine VL.nil ?_
        refine VE.then_wp ?_
        refine V.ret ?_
        refine VE.block_ret ?_
        refine VE.then_ret ?_
        refine VE.then_ret ?_
        refine VE.block_ret ?_
        refine VE.then_ret ?_
        refine ret1 rfl rfl (fun w1 hw => ?_)
        have hmo := sumS_mono ss ss.length (k + 1) (by omega)
        exact ⟨by rw [szS_no (by omega)], hw.below⟩
      · skip
        replace h3 := ic_lss' h3
        refine V.skip ?_
        refine VE.block_normal ?_
        refine VE.then_wp ?_
        refine V.region ?_
        refine VL.r (.inl rfl) rfl (by decide) (yr_move rfl rfl) ?_
        refine VL.r (.inl rfl) rfl (by decide) (yr_int rfl rfl rfl (.inl ⟨rfl, wrap_in (by omega)⟩)) ?_
        refine VL.r (.inl rfl) rfl (by decide) (yr_assign rfl rfl) ?_
        refine VL.nil ?_
        refine VE.round (k + 1) ?_ ?_ ?_ ?_ ?_
        · exact (.cons (congrArg (fun i => some (Value.int .i64 i)) (by omega)) (.cons rfl .nil))
        · exact (.cons rfl .nil)
        · exact (fun w hw => hw)
        · exact ⟨by omega, by omega⟩
        · (try dsimp only); omega
    · skip
      replace h2 := ic_lss' h2
      refine V.exit ?_
      refine VE.then_exit ?_
      refine VE.then_exit ?_
      refine VE.block_here ?_
      refine VE.then_wp ?_
      refine V.seq ?_
      refine V.region ?_
      refine VL.r (.inl rfl) rfl (by decide) (yr_move rfl rfl) ?_
      refine VL.r (.inl rfl) rfl (by decide) (yr_assign rfl rfl) ?_
      refine VL.nil ?_
      refine VE.then_wp ?_
      refine V.ret ?_
      refine ret1 rfl rfl (fun w1 hw => ?_)
      obtain rfl : k = ss.length := by omega
      exact ⟨by rw [szS_yes (by omega)]; rfl, hw.below⟩

theorem c_toStr {w : World} {a : Option Addr} {c : Nat} {ss : List ByteArray} (hA : Cl w a (sx ss)) (hn : ss.length ≤ 1050000) : New Tryd.prog 11 [.slice a ss.length c] w (fun p : Option Addr × Nat => .slice p.1 ss.length p.2) (fun p => [⟨p.1, sx ss, p.2 * 1, 9⟩]) := by
  refine New.enter Tryd.func11 rfl Tryd.ntmps11 (Nat.le_of_ble_eq_true rfl) ?_
  refine V.seq ?_
  refine V.region ?_
  refine VL.r (.inl rfl) rfl (by decide) (yr_assign (u := .slice none 0 0) rfl rfl) ?_
  refine VL.nil ?_
  refine VE.then_wp ?_
  refine V.seq ?_
  refine V.region ?_
  refine VL.r (.inl rfl) rfl (by decide) (yr_move rfl rfl) ?_
  refine VL.r (.inl rfl) rfl (by decide) (yr_len rfl Tryd.underlying25 rfl) ?_
  refine VL.new1 (.inl rfl) rfl (by decide) (yn_makeSlicez 1 rfl rfl Tryd.underlying25 elt9_Jo rfl rfl rfl (by omega) (by omega)) ?_
  intro b7
  refine VL.r (.inl rfl) rfl (by decide) (yr_assign rfl rfl) ?_
  refine VL.nil ?_
  refine VE.then_wp ?_
  refine V.seq ?_
  refine V.seq ?_
  refine V.region ?_
  refine VL.r (.inl rfl) rfl (by decide) (yr_assign (u := .int .i64 0) rfl rfl) ?_
  refine VL.nil ?_
  refine VE.then_wp ?_
  refine V.block ?_
  refine V.loopc (G := Nat × (List ByteArray)) [(0, _), (3, _)] (fun ⟨k, ys⟩ => k ≤ ss.length ∧ ys.length = ss.length ∧ ys.take k = ss.take k) (fun ⟨k, ys⟩ => [⟨some ⟨b7, 0, none⟩, sx ys, ss.length * 1, 9⟩]) (fun ⟨k, ys⟩ => [(4, .int .i64 (k : Int))]) (fun ⟨k, ys⟩ => ss.length - k) (0, List.replicate ss.length emB) (.cons rfl (.cons rfl .nil)) (.cons rfl .nil) ?_ ?_ ?_
  · exact (fun w hw => by rw [sx_blank] at hw; exact hw)
  · exact (by simp)
  rintro ⟨k, ys⟩ ⟨hk, hl, ht⟩
  show V _ _ _ [⟨some ⟨b7, 0, none⟩, sx ys, ss.length * 1, 9⟩] ([(4, .int .i64 (k : Int))] ++ [(0, _), (3, _)]) _ _
  refine V.seq ?_
  refine V.seq ?_
  refine V.region ?_
  refine VL.r (.inl rfl) rfl (by decide) (yr_move rfl rfl) ?_
  refine VL.r (.inl rfl) rfl (by decide) (yr_move rfl rfl) ?_
  refine VL.r (.inl rfl) rfl (by decide) (yr_len rfl Tryd.underlying25 rfl) ?_
  refine VL.r (.inl rfl) rfl (by decide) (yr_icmp rfl (.inr (.inr (.inl rfl))) rfl rfl) ?_
  refine VL.nil ?_
  refine VE.then_wp ?_
  refine V.cond rfl (fun h1 => ?_) (fun h1 => ?_)
  · skip
    replace h1 := ic_lss h1
    refine V.skip ?_
    refine VE.then_wp ?_
    refine V.seq ?_
    refine V.block ?_
    refine V.region ?_
    refine VL.r (.inl rfl) rfl (by decide) (yr_move rfl rfl) ?_
    refine VL.r (.inl rfl) rfl (by decide) (yr_move rfl rfl) ?_
    refine VL.r (.inl rfl) rfl (by decide) (yr_move rfl rfl) ?_
    refine VL.r (.inl rfl) rfl (by decide) (yr_move rfl rfl) ?_
    refine VL.q (.inl rfl) rfl (by decide) (yq_idx (k := k) rfl Tryd.underlying25 sz9_Jo rfl rfl (by first | exact Sees.root (by assumption) | exact Sees.own (by repeat (first | exact List.mem_cons_self | exact List.mem_append_left _ (by assumption) | apply List.mem_cons_of_mem | apply List.mem_append_right)) | exact Sees.root (hR _ (by omega)) | exact Sees.own (RowsIn.mem (by repeat (first | exact RowsIn.here | exact RowsIn.last | apply RowsIn.there | apply RowsIn.thereS)) _ (by omega)) | exact Sees.own (WRowsIn.mem (by repeat (first | exact WRowsIn.here | exact WRowsIn.last | apply WRowsIn.there | apply WRowsIn.thereS)) _ (by omega))) (by first | rfl | omega | (push_cast; rfl) | (push_cast; omega) | exact tmod_nat _ _) (by first | exact sx_length _ | (rw [sx_length]; omega)) (by omega)) ?_
    refine VL.q (.inl rfl) rfl (by decide) (yq_load (u := .string (ss.getD k emB)) rfl fb9_Jo rfl (by first | exact Sees.root (by assumption) | exact Sees.own (by repeat (first | exact List.mem_cons_self | exact List.mem_append_left _ (by assumption) | apply List.mem_cons_of_mem | apply List.mem_append_right)) | exact Sees.root (hR _ (by omega)) | exact Sees.own (RowsIn.mem (by repeat (first | exact RowsIn.here | exact RowsIn.last | apply RowsIn.there | apply RowsIn.thereS)) _ (by omega)) | exact Sees.own (WRowsIn.mem (by repeat (first | exact WRowsIn.here | exact WRowsIn.last | apply WRowsIn.there | apply WRowsIn.thereS)) _ (by omega))) (sx_get (by omega))) ?_
    refine VL.q (.inl rfl) rfl (by decide) (yq_idx (k := k) rfl Tryd.underlying25 sz9_Jo rfl rfl (by first | exact Sees.root (by assumption) | exact Sees.own (by repeat (first | exact List.mem_cons_self | exact List.mem_append_left _ (by assumption) | apply List.mem_cons_of_mem | apply List.mem_append_right)) | exact Sees.root (hR _ (by omega)) | exact Sees.own (RowsIn.mem (by repeat (first | exact RowsIn.here | exact RowsIn.last | apply RowsIn.there | apply RowsIn.thereS)) _ (by omega)) | exact Sees.own (WRowsIn.mem (by repeat (first | exact WRowsIn.here | exact WRowsIn.last | apply WRowsIn.there | apply WRowsIn.thereS)) _ (by omega))) (by first | rfl | omega | (push_cast; rfl) | (push_cast; omega) | exact tmod_nat _ _) (by first | exact sx_length _ | (rw [sx_length]; omega)) (by omega)) ?_
    refine VL.s (.inl rfl) rfl (yc_store rfl sz9_Jo rfl rfl (by repeat (first | exact UpdF.here | apply UpdF.there | apply UpdF.thereS)) (.inl ⟨rfl, rfl⟩) rfl (by rw [sx_length]; omega) (by decide) (sx_set _ _ _)) ?_
    rintro ⟨⟩
    refine VL.nil ?_
    refine VE.block_normal ?_
    refine VE.then_wp ?_
    refine V.region ?_
    refine VL.r (.inl rfl) rfl (by decide) (yr_move rfl rfl) ?_
    refine VL.r (.inl rfl) rfl (by decide) (yr_int rfl rfl rfl (.inl ⟨rfl, wrap_in (by omega)⟩)) ?_
    refine VL.r (.inl rfl) rfl (by decide) (yr_assign rfl rfl) ?_
    refine VL.nil ?_
    refine VE.round (k + 1, ys.set k (ss.getD k emB)) ?_ ?_ ?_ ?_ ?_
    · exact (.cons rfl .nil)
    · exact (.cons rfl (.cons rfl .nil))
    · exact (fun w hw => hw)
    · exact ⟨by omega, by simp [hl], takeS_set hl rfl ht (by omega)⟩
    · (try dsimp only); omega
  · skip
    replace h1 := ic_lss' h1
    refine V.exit ?_
    refine VE.then_exit ?_
    refine VE.then_exit ?_
    refine VE.block_here ?_
    refine VE.then_wp ?_
    refine V.seq ?_
    refine V.region ?_
    refine VL.r (.inl rfl) rfl (by decide) (yr_move rfl rfl) ?_
    refine VL.r (.inl rfl) rfl (by decide) (yr_assign rfl rfl) ?_
    refine VL.nil ?_
    refine VE.then_wp ?_
    refine V.ret ?_
    refine ret1 rfl rfl (fun w1 hw => ?_)
    have hke := takeS_all hl rfl ht (by omega)
    subst hke
    exact ⟨(some ⟨b7, 0, none⟩, _), rfl, hw.out1⟩

theorem c_l08J {w : World} {a : Option Addr} {c : Nat} {ss : List ByteArray} (hA : Cl w a (sx ss)) (hl4 : ss.length ≤ 4000) (hz : tot ss ss.length ≤ 12000) : Pure Tryd.prog 24 [.slice a ss.length c] w (.string (jT ss ss.length)) := by
  refine Pure.enter Tryd.func24 rfl Tryd.ntmps24 (Nat.le_of_ble_eq_true rfl) ?_
  refine V.seq ?_
  refine V.region ?_
  refine VL.r (.inl rfl) rfl (by decide) (yr_assign rfl rfl) ?_
  refine VL.nil ?_
  refine VE.then_wp ?_
  refine V.seq ?_
  refine V.region ?_
  refine VL.r (.inl rfl) rfl (by decide) (yr_assign rfl rfl) ?_
  refine VL.nil ?_
  refine VE.then_wp ?_
  refine V.seq ?_
  refine V.region ?_
  refine VL.r (.inl rfl) rfl (by decide) (yr_assign (u := .int .i64 0) rfl rfl) ?_
  refine VL.nil ?_
  refine VE.then_wp ?_
  refine V.seq ?_
  refine V.seq ?_
  refine V.region ?_
  refine VL.r (.inl rfl) rfl (by decide) (yr_assign (u := .int .i64 0) rfl rfl) ?_
  refine VL.nil ?_
  refine VE.then_wp ?_
  refine V.block ?_
  refine V.loops (G := Nat) [(0, _)] (fun (k : Nat) => k ≤ ss.length) (fun (k : Nat) => [(3, .string (jT ss k)), (4, .int .i64 ((jC ss k : Nat) : Int)), (5, .int .i64 (k : Int))]) (fun (k : Nat) => ss.length - k) 0 (.cons rfl .nil) (.cons rfl (.cons rfl (.cons rfl .nil))) ?_ ?_
  · exact (Nat.zero_le _)
  rintro k hk
  show V _ _ _ _ ([(3, .string (jT ss k)), (4, .int .i64 ((jC ss k : Nat) : Int)), (5, .int .i64 (k : Int))] ++ [(0, _)]) _ _
  have hbd := fun h => jo_bd (k := k) hl4 hz h
  have hjc := jC_lt ss k
  refine V.seq ?_
  refine V.seq ?_
  refine V.region ?_
  refine VL.r (.inl rfl) rfl (by decide) (yr_move rfl rfl) ?_
  refine VL.r (.inl rfl) rfl (by decide) (yr_move rfl rfl) ?_
  refine VL.r (.inl rfl) rfl (by decide) (yr_len rfl Tryd.underlying25 rfl) ?_
  refine VL.r (.inl rfl) rfl (by decide) (yr_icmp rfl (.inr (.inr (.inl rfl))) rfl rfl) ?_
  refine VL.nil ?_
  refine VE.then_wp ?_
  refine V.cond rfl (fun h1 => ?_) (fun h1 => ?_)
  · skip
    replace h1 := ic_lss h1
    obtain ⟨hb1, hb2, hb3, hb4, hb5, hb6⟩ := hbd (by omega)
    have hck := chk_lt (s := (ss.getD k emB)) hjc
    refine V.skip ?_
    refine VE.then_wp ?_
    refine V.seq ?_
    refine V.block ?_
    refine V.seq ?_
    refine V.region ?_
    refine VL.r (.inl rfl) rfl (by decide) (yr_move rfl rfl) ?_
    refine VL.r (.inl rfl) rfl (by decide) (yr_move rfl rfl) ?_
    refine VL.r (.inl rfl) rfl (by decide) (yr_move rfl rfl) ?_
    refine VL.q (.inl rfl) rfl (by decide) (yq_idx (k := k) rfl Tryd.underlying25 sz9_Jo rfl rfl (by first | exact Sees.root (by assumption) | exact Sees.own (by repeat (first | exact List.mem_cons_self | exact List.mem_append_left _ (by assumption) | apply List.mem_cons_of_mem | apply List.mem_append_right)) | exact Sees.root (hR _ (by omega)) | exact Sees.own (RowsIn.mem (by repeat (first | exact RowsIn.here | exact RowsIn.last | apply RowsIn.there | apply RowsIn.thereS)) _ (by omega)) | exact Sees.own (WRowsIn.mem (by repeat (first | exact WRowsIn.here | exact WRowsIn.last | apply WRowsIn.there | apply WRowsIn.thereS)) _ (by omega))) (by first | rfl | omega | (push_cast; rfl) | (push_cast; omega) | exact tmod_nat _ _) (by first | exact sx_length _ | (rw [sx_length]; omega)) (by omega)) ?_
    refine VL.q (.inl rfl) rfl (by decide) (yq_load (u := .string (ss.getD k emB)) rfl fb9_Jo rfl (by first | exact Sees.root (by assumption) | exact Sees.own (by repeat (first | exact List.mem_cons_self | exact List.mem_append_left _ (by assumption) | apply List.mem_cons_of_mem | apply List.mem_append_right)) | exact Sees.root (hR _ (by omega)) | exact Sees.own (RowsIn.mem (by repeat (first | exact RowsIn.here | exact RowsIn.last | apply RowsIn.there | apply RowsIn.thereS)) _ (by omega)) | exact Sees.own (WRowsIn.mem (by repeat (first | exact WRowsIn.here | exact WRowsIn.last | apply WRowsIn.there | apply WRowsIn.thereS)) _ (by omega))) (sx_get (by omega))) ?_
    refine VL.q (.inl rfl) rfl (by decide) (yq_callf rfl known40_Jo (.cons rfl (.cons rfl .nil)) (fun w hw => (c_check (by omega) (by omega)))) ?_
    refine VL.r (.inl rfl) rfl (by decide) (yr_assign rfl rfl) ?_
    refine VL.nil ?_
    refine VE.then_wp ?_
    refine Dr.V.drawR [(0, 5), (1, 5), (2, 5), (3, 5), (4, 5), (5, 5), (6, 5), (7, 5), (8, 5), (9, 5), (10, 5), (11, 5)] [] [] _ mixed_Jo (by kernel_rfl) (fun w hw => hw) ?_
    refine Dr.SW.r rfl (.inl rfl) rfl (by decide) (yr_move rfl rfl) ?_
    refine Dr.SW.r rfl (.inl rfl) rfl (by decide) (yr_move rfl rfl) ?_
    refine Dr.SW.p rfl (.inl rfl) rfl (by decide) (yq_callf rfl known41_Jo (.cons rfl .nil) (fun w hw => (c_dec (by omega)))) ?_
    refine Dr.SW.r rfl (.inl rfl) rfl (by decide) (yr_strAdd (c := dec (chk (jC ss k) (ss.getD k emB)) ++ ⟨#[32]⟩) rfl rfl rfl (cat_bd (by omega) (by first | omega | decide)) rfl) ?_
    refine Dr.SW.r rfl (.inl rfl) rfl (by decide) (yr_move rfl rfl) ?_
    refine Dr.SW.r rfl (.inl rfl) rfl (by decide) (yr_move rfl rfl) ?_
    refine Dr.SW.p rfl (.inl rfl) rfl (by decide) (yq_idx (k := k) rfl Tryd.underlying25 sz9_Jo rfl rfl (by first | exact Sees.root (by assumption) | exact Sees.own (by (try simp only [List.append_assoc, List.cons_append, List.nil_append]); repeat (first | exact List.mem_cons_self | exact List.mem_append_left _ (by assumption) | apply List.mem_cons_of_mem | apply List.mem_append_right)) | exact Sees.root (hR _ (by omega)) | exact Sees.own (RowsIn.mem (by (try simp only [List.append_assoc, List.cons_append, List.nil_append]); repeat (first | exact RowsIn.here | exact RowsIn.last | apply RowsIn.there | apply RowsIn.thereS)) _ (by omega)) | exact Sees.own (WRowsIn.mem (by (try simp only [List.append_assoc, List.cons_append, List.nil_append]); repeat (first | exact WRowsIn.here | exact WRowsIn.last | apply WRowsIn.there | apply WRowsIn.thereS)) _ (by omega))) (by first | rfl | omega | (push_cast; rfl) | (push_cast; omega) | exact tmod_nat _ _) (by first | exact sx_length _ | (rw [sx_length]; omega)) (by omega)) ?_
    refine Dr.SW.p rfl (.inl rfl) rfl (by decide) (yq_load (u := .string (ss.getD k emB)) rfl fb9_Jo rfl (by first | exact Sees.root (by assumption) | exact Sees.own (by (try simp only [List.append_assoc, List.cons_append, List.nil_append]); repeat (first | exact List.mem_cons_self | exact List.mem_append_left _ (by assumption) | apply List.mem_cons_of_mem | apply List.mem_append_right)) | exact Sees.root (hR _ (by omega)) | exact Sees.own (RowsIn.mem (by (try simp only [List.append_assoc, List.cons_append, List.nil_append]); repeat (first | exact RowsIn.here | exact RowsIn.last | apply RowsIn.there | apply RowsIn.thereS)) _ (by omega)) | exact Sees.own (WRowsIn.mem (by (try simp only [List.append_assoc, List.cons_append, List.nil_append]); repeat (first | exact WRowsIn.here | exact WRowsIn.last | apply WRowsIn.there | apply WRowsIn.thereS)) _ (by omega))) (sx_get (by omega))) ?_
    refine Dr.SW.r rfl (.inl rfl) rfl (by decide) (yr_strAdd (c := dec (chk (jC ss k) (ss.getD k emB)) ++ ⟨#[32]⟩ ++ (ss.getD k emB)) rfl rfl rfl (cat_bd (by omega) (by first | omega | decide)) rfl) ?_
    refine Dr.SW.r rfl (.inl rfl) rfl (by decide) (yr_strAdd (c := ln1 (chk (jC ss k) (ss.getD k emB)) (ss.getD k emB)) rfl rfl rfl (cat_bd (by omega) (by first | omega | decide)) rfl) ?_
    refine Dr.SW.r rfl (.inl rfl) rfl (by decide) (yr_strAdd (c := jT ss (k + 1)) rfl rfl rfl (cat_bd (by omega) (by first | omega | decide)) rfl) ?_
    refine Dr.SW.r rfl (.inl rfl) rfl (by decide) (yr_assign rfl rfl) ?_
    refine Dr.SW.done ?_
    refine Dr.eqO (by simp only [List.append_nil, List.append_assoc, List.cons_append, List.nil_append] <;> rfl) ?_
    refine VE.block_normal ?_
    refine VE.then_wp ?_
    refine V.region ?_
    refine VL.r (.inl rfl) rfl (by decide) (yr_move rfl rfl) ?_
    refine VL.r (.inl rfl) rfl (by decide) (yr_int rfl rfl rfl (.inl ⟨rfl, wrap_in (by omega)⟩)) ?_
    refine VL.r (.inl rfl) rfl (by decide) (yr_assign rfl rfl) ?_
    refine VL.nil ?_
    refine VE.round (k + 1) ?_ ?_ ?_ ?_ ?_
    · exact (.cons rfl (.cons rfl (.cons rfl .nil)))
    · exact (.cons rfl .nil)
    · exact (fun w hw => hw)
    · omega
    · (try dsimp only); omega
  · skip
    replace h1 := ic_lss' h1
    refine V.exit ?_
    refine VE.then_exit ?_
    refine VE.then_exit ?_
    refine VE.block_here ?_
    refine VE.then_wp ?_
    refine V.seq ?_
    refine V.region ?_
    refine VL.r (.inl rfl) rfl (by decide) (yr_move rfl rfl) ?_
    refine VL.r (.inl rfl) rfl (by decide) (yr_assign rfl rfl) ?_
    refine VL.nil ?_
    refine VE.then_wp ?_
    refine V.ret ?_
    refine ret1 rfl rfl (fun w1 hw => ?_)
    obtain rfl : k = ss.length := by omega
    exact ⟨rfl, hw.below⟩

theorem c_specJo {w : World} {a : Option Addr} {c : Nat} {ss : List ByteArray} (hA : Cl w a (sx ss)) (hn : ss.length ≤ 1048576) (hr : ∀ i, i < ss.length → (ss.getD i emB).size ≤ 1048576) : Pure Tryd.prog 10 [.slice a ss.length c] w (.tuple #[.string (jR ss), .bool (jOk ss)]) := by
  refine Pure.enter Tryd.func10 rfl Tryd.ntmps10 (Nat.le_of_ble_eq_true rfl) ?_
  refine V.seq ?_
  refine V.region ?_
  refine VL.r (.inl rfl) rfl (by decide) (yr_assign rfl rfl) ?_
  refine VL.r (.inl rfl) rfl (by decide) (yr_assign (u := .bool false) rfl rfl) ?_
  refine VL.nil ?_
  refine VE.then_wp ?_
  refine V.seq ?_
  refine V.region ?_
  refine VL.r (.inl rfl) rfl (by decide) (yr_assign (u := .int .i64 0) rfl rfl) ?_
  refine VL.nil ?_
  refine VE.then_wp ?_
  refine V.seq ?_
  refine V.seq ?_
  refine V.region ?_
  refine VL.r (.inl rfl) rfl (by decide) (yr_assign (u := .int .i64 0) rfl rfl) ?_
  refine VL.nil ?_
  refine VE.then_wp ?_
  refine V.block ?_
  refine V.loops (G := Nat) [(0, _)] (fun (i : Nat) => i ≤ ss.length ∧ tot ss i ≤ 12000 ∧ noNL ss i = true) (fun (i : Nat) => [(4, .int .i64 ((tot ss i : Nat) : Int)), (5, .int .i64 (i : Int))]) (fun (i : Nat) => ss.length - i) 0 (.cons rfl .nil) (.cons rfl (.cons rfl .nil)) ?_ ?_
  · exact (by exact ⟨Nat.zero_le _, Nat.zero_le _, noNL_0 ss⟩)
  rintro i ⟨hi9, ht9, hn9⟩
  show V _ _ _ _ ([(4, .int .i64 ((tot ss i : Nat) : Int)), (5, .int .i64 (i : Int))] ++ [(0, _)]) _ _
  have hri := hr i
  have hts := tot_s ss i
  refine V.seq ?_
  refine V.seq ?_
  refine V.region ?_
  refine VL.r (.inl rfl) rfl (by decide) (yr_move rfl rfl) ?_
  refine VL.r (.inl rfl) rfl (by decide) (yr_move rfl rfl) ?_
  refine VL.r (.inl rfl) rfl (by decide) (yr_len rfl Tryd.underlying25 rfl) ?_
  refine VL.r (.inl rfl) rfl (by decide) (yr_icmp rfl (.inr (.inr (.inl rfl))) rfl rfl) ?_
  refine VL.nil ?_
  refine VE.then_wp ?_
  refine V.cond rfl (fun h1 => ?_) (fun h1 => ?_)
  · skip
    replace h1 := ic_lss h1
    have hri2 := hri (by omega)
    refine V.skip ?_
    refine VE.then_wp ?_
    refine V.seq ?_
    refine V.block ?_
    refine V.seq ?_
    refine V.region ?_
    refine VL.r (.inl rfl) rfl (by decide) (yr_move rfl rfl) ?_
    refine VL.r (.inl rfl) rfl (by decide) (yr_move rfl rfl) ?_
    refine VL.r (.inl rfl) rfl (by decide) (yr_move rfl rfl) ?_
    refine VL.q (.inl rfl) rfl (by decide) (yq_idx (k := i) rfl Tryd.underlying25 sz9_Jo rfl rfl (by first | exact Sees.root (by assumption) | exact Sees.own (by repeat (first | exact List.mem_cons_self | exact List.mem_append_left _ (by assumption) | apply List.mem_cons_of_mem | apply List.mem_append_right)) | exact Sees.root (hR _ (by omega)) | exact Sees.own (RowsIn.mem (by repeat (first | exact RowsIn.here | exact RowsIn.last | apply RowsIn.there | apply RowsIn.thereS)) _ (by omega)) | exact Sees.own (WRowsIn.mem (by repeat (first | exact WRowsIn.here | exact WRowsIn.last | apply WRowsIn.there | apply WRowsIn.thereS)) _ (by omega))) (by first | rfl | omega | (push_cast; rfl) | (push_cast; omega) | exact tmod_nat _ _) (by first | exact sx_length _ | (rw [sx_length]; omega)) (by omega)) ?_
    refine VL.q (.inl rfl) rfl (by decide) (yq_load (u := .string (ss.getD i emB)) rfl fb9_Jo rfl (by first | exact Sees.root (by assumption) | exact Sees.own (by repeat (first | exact List.mem_cons_self | exact List.mem_append_left _ (by assumption) | apply List.mem_cons_of_mem | apply List.mem_append_right)) | exact Sees.root (hR _ (by omega)) | exact Sees.own (RowsIn.mem (by repeat (first | exact RowsIn.here | exact RowsIn.last | apply RowsIn.there | apply RowsIn.thereS)) _ (by omega)) | exact Sees.own (WRowsIn.mem (by repeat (first | exact WRowsIn.here | exact WRowsIn.last | apply WRowsIn.there | apply WRowsIn.thereS)) _ (by omega))) (sx_get (by omega))) ?_
    refine VL.r (.inl rfl) rfl (by decide) (yr_lenString rfl Tryd.underlying9 rfl) ?_
    refine VL.r (.inl rfl) rfl (by decide) (yr_addN ((ss.getD i emB).size + 3) rfl rfl rfl (by omega) (by omega)) ?_
    refine VL.r (.inl rfl) rfl (by decide) (yr_addN (tot ss i + ((ss.getD i emB).size + 3)) rfl rfl rfl (by omega) (by omega)) ?_
    refine VL.r (.inl rfl) rfl (by decide) (yr_assign rfl rfl) ?_
    refine VL.nil ?_
    refine VE.then_wp ?_
    refine V.seq ?_
    refine V.seq ?_
    refine V.region ?_
    refine VL.r (.inl rfl) rfl (by decide) (yr_move rfl rfl) ?_
    refine VL.r (.inl rfl) rfl (by decide) (yr_icmp rfl (.inr (.inr (.inr (.inr (.inl rfl))))) rfl rfl) ?_
    refine VL.nil ?_
    refine VE.then_wp ?_
    refine V.cond rfl (fun h2 => ?_) (fun h2 => ?_)
    · skip
      replace h2 := ic_gtr h2
      refine V.seq ?_
      refine V.region ?_
      refine VL.r (.inl rfl) rfl (by decide) (yr_assign rfl rfl) ?_
      refine VL.r (.inl rfl) rfl (by decide) (yr_assign (u := .bool false) rfl rfl) ?_
      refine VL.nil ?_
      refine VE.then_wp ?_
      refine V.ret ?_
      refine VE.then_ret ?_
      refine VE.block_ret ?_
      refine VE.then_ret ?_
      refine VE.then_ret ?_
      refine VE.block_ret ?_
      refine VE.then_ret ?_
      refine ret2 rfl rfl rfl (by nofun) (by nofun) (fun w1 hw => ?_)
      obtain ⟨e1, e2⟩ := j_bad3 (ss := ss) (k := i + 1) (by omega) (by omega)
      exact ⟨by rw [e1, e2]; rfl, hw.below⟩
    · skip
      replace h2 := ic_gtr' h2
      refine V.skip ?_
      refine VE.then_wp ?_
      refine V.seq ?_
      refine V.region ?_
      refine VL.r (.inl rfl) rfl (by decide) (yr_assign (u := .int .i64 0) rfl rfl) ?_
      refine VL.nil ?_
      refine VE.then_wp ?_
      refine V.block ?_
      refine V.loops (G := Nat) [(0, _), (4, _), (5, _)] (fun (q : Nat) => q ≤ (ss.getD i emB).size ∧ ∀ j, j < q → sb (ss.getD i emB) j ≠ 10) (fun (q : Nat) => [(6, .int .i64 (q : Int))]) (fun (q : Nat) => (ss.getD i emB).size - q) 0 (.cons rfl (.cons rfl (.cons rfl .nil))) (.cons rfl .nil) ?_ ?_
      · exact (by exact ⟨Nat.zero_le _, fun j hj => absurd hj (Nat.not_lt_zero _)⟩)
      rintro q ⟨hql9, hq9⟩
      show V _ _ _ _ ([(6, .int .i64 (q : Int))] ++ [(0, _), (4, _), (5, _)]) _ _
      refine V.seq ?_
      refine V.seq ?_
      refine V.region ?_
      refine VL.r (.inl rfl) rfl (by decide) (yr_move rfl rfl) ?_
      refine VL.r (.inl rfl) rfl (by decide) (yr_move rfl rfl) ?_
      refine VL.r (.inl rfl) rfl (by decide) (yr_move rfl rfl) ?_
      refine VL.q (.inl rfl) rfl (by decide) (yq_idx (k := i) rfl Tryd.underlying25 sz9_Jo rfl rfl (by first | exact Sees.root (by assumption) | exact Sees.own (by repeat (first | exact List.mem_cons_self | exact List.mem_append_left _ (by assumption) | apply List.mem_cons_of_mem | apply List.mem_append_right)) | exact Sees.root (hR _ (by omega)) | exact Sees.own (RowsIn.mem (by repeat (first | exact RowsIn.here | exact RowsIn.last | apply RowsIn.there | apply RowsIn.thereS)) _ (by omega)) | exact Sees.own (WRowsIn.mem (by repeat (first | exact WRowsIn.here | exact WRowsIn.last | apply WRowsIn.there | apply WRowsIn.thereS)) _ (by omega))) (by first | rfl | omega | (push_cast; rfl) | (push_cast; omega) | exact tmod_nat _ _) (by first | exact sx_length _ | (rw [sx_length]; omega)) (by omega)) ?_
      refine VL.q (.inl rfl) rfl (by decide) (yq_load (u := .string (ss.getD i emB)) rfl fb9_Jo rfl (by first | exact Sees.root (by assumption) | exact Sees.own (by repeat (first | exact List.mem_cons_self | exact List.mem_append_left _ (by assumption) | apply List.mem_cons_of_mem | apply List.mem_append_right)) | exact Sees.root (hR _ (by omega)) | exact Sees.own (RowsIn.mem (by repeat (first | exact RowsIn.here | exact RowsIn.last | apply RowsIn.there | apply RowsIn.thereS)) _ (by omega)) | exact Sees.own (WRowsIn.mem (by repeat (first | exact WRowsIn.here | exact WRowsIn.last | apply WRowsIn.there | apply WRowsIn.thereS)) _ (by omega))) (sx_get (by omega))) ?_
      refine VL.r (.inl rfl) rfl (by decide) (yr_lenString rfl Tryd.underlying9 rfl) ?_
      refine VL.r (.inl rfl) rfl (by decide) (yr_icmp rfl (.inr (.inr (.inl rfl))) rfl rfl) ?_
      refine VL.nil ?_
      refine VE.then_wp ?_
      refine V.cond rfl (fun h3 => ?_) (fun h3 => ?_)
      · skip
        replace h3 := ic_lss h3
        refine V.skip ?_
        refine VE.then_wp ?_
        refine V.seq ?_
        refine V.block ?_
        refine V.seq ?_
        refine V.region ?_
        refine VL.r (.inl rfl) rfl (by decide) (yr_move rfl rfl) ?_
        refine VL.r (.inl rfl) rfl (by decide) (yr_move rfl rfl) ?_
        refine VL.q (.inl rfl) rfl (by decide) (yq_idx (k := i) rfl Tryd.underlying25 sz9_Jo rfl rfl (by first | exact Sees.root (by assumption) | exact Sees.own (by repeat (first | exact List.mem_cons_self | exact List.mem_append_left _ (by assumption) | apply List.mem_cons_of_mem | apply List.mem_append_right)) | exact Sees.root (hR _ (by omega)) | exact Sees.own (RowsIn.mem (by repeat (first | exact RowsIn.here | exact RowsIn.last | apply RowsIn.there | apply RowsIn.thereS)) _ (by omega)) | exact Sees.own (WRowsIn.mem (by repeat (first | exact WRowsIn.here | exact WRowsIn.last | apply WRowsIn.there | apply WRowsIn.thereS)) _ (by omega))) (by first | rfl | omega | (push_cast; rfl) | (push_cast; omega) | exact tmod_nat _ _) (by first | exact sx_length _ | (rw [sx_length]; omega)) (by omega)) ?_
        refine VL.q (.inl rfl) rfl (by decide) (yq_load (u := .string (ss.getD i emB)) rfl fb9_Jo rfl (by first | exact Sees.root (by assumption) | exact Sees.own (by repeat (first | exact List.mem_cons_self | exact List.mem_append_left _ (by assumption) | apply List.mem_cons_of_mem | apply List.mem_append_right)) | exact Sees.root (hR _ (by omega)) | exact Sees.own (RowsIn.mem (by repeat (first | exact RowsIn.here | exact RowsIn.last | apply RowsIn.there | apply RowsIn.thereS)) _ (by omega)) | exact Sees.own (WRowsIn.mem (by repeat (first | exact WRowsIn.here | exact WRowsIn.last | apply WRowsIn.there | apply WRowsIn.thereS)) _ (by omega))) (sx_get (by omega))) ?_
        refine VL.r (.inl rfl) rfl (by decide) (yr_move rfl rfl) ?_
        refine VL.r (.inl rfl) rfl (by decide) (yr_strByte (i := q) rfl Tryd.underlying9 rfl rfl (by first | rfl | omega | (push_cast; rfl) | (push_cast; omega)) (by omega)) ?_
        refine VL.r (.inl rfl) rfl (by decide) (yr_icmp rfl (.inl rfl) rfl rfl) ?_
        refine VL.nil ?_
        refine VE.then_wp ?_
        refine V.cond rfl (fun h4 => ?_) (fun h4 => ?_)
        · skip
          replace h4 := ic_eql h4
          refine V.seq ?_
          refine V.region ?_
          refine VL.r (.inl rfl) rfl (by decide) (yr_assign rfl rfl) ?_
          refine VL.r (.inl rfl) rfl (by decide) (yr_assign (u := .bool false) rfl rfl) ?_
          refine VL.nil ?_
          refine VE.then_wp ?_
          refine V.ret ?_
          refine VE.block_ret ?_
          refine VE.then_ret ?_
          refine VE.then_ret ?_
          refine VE.block_ret ?_
          refine VE.block_ret ?_
          refine VE.then_ret ?_
          refine VE.then_ret ?_
          refine VE.block_ret ?_
          refine VE.then_ret ?_
          refine ret2 rfl rfl rfl (by nofun) (by nofun) (fun w1 hw => ?_)
          obtain ⟨e1, e2⟩ := j_bad1 (ss := ss) (k := i) (by omega) (nl_yes (j := q) (by omega) (by omega))
          exact ⟨by rw [e1, e2]; rfl, hw.below⟩
        · skip
          replace h4 := ic_eql' h4
          refine V.skip ?_
          refine VE.block_normal ?_
          refine VE.then_wp ?_
          refine V.region ?_
          refine VL.r (.inl rfl) rfl (by decide) (yr_move rfl rfl) ?_
          refine VL.r (.inl rfl) rfl (by decide) (yr_int rfl rfl rfl (.inl ⟨rfl, wrap_in (by omega)⟩)) ?_
          refine VL.r (.inl rfl) rfl (by decide) (yr_assign rfl rfl) ?_
          refine VL.nil ?_
          refine VE.round (q + 1) ?_ ?_ ?_ ?_ ?_
          · exact (.cons rfl .nil)
          · exact (.cons rfl (.cons rfl (.cons rfl .nil)))
          · exact (fun w hw => hw)
          · refine ⟨by omega, fun j hj => ?_⟩
            rcases Nat.lt_or_ge j q with h9 | h9
            · exact hq9 j h9
            · obtain rfl : j = q := by omega
              omega
          · (try dsimp only); omega
      · skip
        replace h3 := ic_lss' h3
        refine V.exit ?_
        refine VE.then_exit ?_
        refine VE.then_exit ?_
        refine VE.block_here ?_
        refine VE.block_normal ?_
        refine VE.then_wp ?_
        refine V.region ?_
        refine VL.r (.inl rfl) rfl (by decide) (yr_move rfl rfl) ?_
        refine VL.r (.inl rfl) rfl (by decide) (yr_int rfl rfl rfl (.inl ⟨rfl, wrap_in (by omega)⟩)) ?_
        refine VL.r (.inl rfl) rfl (by decide) (yr_assign rfl rfl) ?_
        refine VL.nil ?_
        refine VE.round (i + 1) ?_ ?_ ?_ ?_ ?_
        · exact (.cons rfl (.cons rfl .nil))
        · exact (.cons rfl .nil)
        · exact (fun w hw => hw)
        · exact ⟨by omega, by omega, noNL_y hn9 (nl_no (fun j hj => hq9 j (by omega)))⟩
        · (try dsimp only); omega
  · skip
    replace h1 := ic_lss' h1
    obtain rfl : i = ss.length := by omega
    have hk3 := tot_k ss ss.length
    refine V.exit ?_
    refine VE.then_exit ?_
    refine VE.then_exit ?_
    refine VE.block_here ?_
    refine VE.then_wp ?_
    refine V.seq ?_
    refine V.region ?_
    refine VL.r (.inl rfl) rfl (by decide) (yr_move rfl rfl) ?_
    refine VL.q (.inl rfl) rfl (by decide) (yq_callf rfl known24_Jo (.cons rfl .nil) (fun w hw => (c_l08J (by first | exact Sees.root (by assumption) w hw | exact Sees.own (by repeat (first | exact List.mem_cons_self | exact List.mem_append_left _ (by assumption) | apply List.mem_cons_of_mem | apply List.mem_append_right)) w hw) (by omega) (by omega)))) ?_
    refine VL.r (.inl rfl) rfl (by decide) (yr_assign rfl rfl) ?_
    refine VL.nil ?_
    refine VE.then_wp ?_
    refine V.seq ?_
    refine V.seq ?_
    refine V.region ?_
    refine VL.r (.inl rfl) rfl (by decide) (yr_move rfl rfl) ?_
    refine VL.r (.inl rfl) rfl (by decide) (yr_lenString rfl Tryd.underlying9 rfl) ?_
    refine VL.r (.inl rfl) rfl (by decide) (yr_icmp rfl (.inr (.inr (.inr (.inr (.inl rfl))))) rfl rfl) ?_
    refine VL.nil ?_
    refine VE.then_wp ?_
    refine V.cond rfl (fun h5 => ?_) (fun h5 => ?_)
    · skip
      replace h5 := ic_gtr h5
      refine V.seq ?_
      refine V.region ?_
      refine VL.r (.inl rfl) rfl (by decide) (yr_assign rfl rfl) ?_
      refine VL.r (.inl rfl) rfl (by decide) (yr_assign (u := .bool false) rfl rfl) ?_
      refine VL.nil ?_
      refine VE.then_wp ?_
      refine V.ret ?_
      refine VE.then_ret ?_
      refine ret2 rfl rfl rfl (by nofun) (by nofun) (fun w1 hw => ?_)
      obtain ⟨e1, e2⟩ := j_bad2 (ss := ss) (k := ss.length) (Nat.le_refl _) (by omega)
      exact ⟨by rw [e1, e2]; rfl, hw.below⟩
    · skip
      replace h5 := ic_gtr' h5
      refine V.skip ?_
      refine VE.then_wp ?_
      refine V.seq ?_
      refine V.region ?_
      refine VL.r (.inl rfl) rfl (by decide) (yr_move rfl rfl) ?_
      refine VL.r (.inl rfl) rfl (by decide) (yr_assign rfl rfl) ?_
      refine VL.r (.inl rfl) rfl (by decide) (yr_assign (u := .bool true) rfl rfl) ?_
      refine VL.nil ?_
      refine VE.then_wp ?_
      refine V.ret ?_
      refine ret2 rfl rfl rfl (by nofun) (by nofun) (fun w1 hw => ?_)
      obtain ⟨e1, e2⟩ := j_good hn9 (by omega)
      exact ⟨by rw [e1, e2], hw.below⟩

end Go.Proofs.YtmecikeaogjmpaaDoor


namespace Go.Proofs.YtmecikeaogjmpaaDoor
open Go.RowKit
section
variable {P : Program} {n : Nat} {w0 : World} {O : List Ent} {E : Env} {Q : Exit → Act → World → Prop} {ops : Array Oper} {o : Oper} {rest : List Oper} {d : Nat}
theorem VL.any {X : Type} {u : X → Value} {R : X → World → Prop} (hg : Wants ops E o) (hd : o.dst = some d) (hdn : d < n) (hy : ∀ ρ w, Ev E o.op ρ → Hp w0 O w → ResOk P (fun v w' => ∃ x, cn v = u x ∧ R x w') ((execOp ρ o).run P w))
    (h : ∀ x w', R x w' → VL P n w' [] ((d, u x) :: E) ops Q rest) : VL P n w0 O E ops Q (o :: rest) := by
  intro a w ha hw
  refine wpList_step fun K hK => ?_
  rw [if_pos (hg.wanted ha)]
  unfold Oper.wp
  refine (hy a.eval w (ha.ev _) hw).upon fun v w' ⟨x, h1, h2⟩ => hK _ _ ?_
  exact h x w' h2 _ _ (by rw [hd]; exact ha.put hdn h1) (Hp.refl w')
theorem ya_call {args : Array Operand} {ts : Array TypeId} {f : FuncId} {us : List Value} {X : Type} {u : X → Value} {R : X → World → Prop} (ho : o.op = .call ⟨.value (.func f), args, ts⟩) (hk : Known P f) (hx : Opds E args.toList us)
    (h : ∀ w, Hp w0 O w → ∀ vs : Array Value, vs.toList.map cn = us → Calls P f vs w (fun e w' => ∃ v, e = .returned v ∧ ∃ x, cn v = u x ∧ R x w')) :
    ∀ ρ w, Ev E o.op ρ → Hp w0 O w → ResOk P (fun v w' => ∃ x, cn v = u x ∧ R x w') ((execOp ρ o).run P w) := by
  intro ρ w hE hw
  rw [run_call ho hk rfl hE]
  exact h w hw _ (args_map' ho hx hE)
theorem ya_alloc {e : TypeId} {z : Value} (ho : o.op = .alloc e) (hz : (P.info? e).bind (·.zero) = some z) :
    ∀ ρ w, Ev E o.op ρ → Hp w0 O w → ResOk P (fun v w' => ∃ b : Nat, cn v = .pointer (some (adr (some ⟨b, 0, none⟩) 0)) ∧ (w0.heap.size ≤ b ∧ Below w0.heap.size w0 w' ∧ w'.heap[b]? = some (.cells z.cells.toList.toArray e (0, 0)))) ((execOp ρ o).run P w) := by
  intro ρ w hE hw
  have hr : (execOp ρ o).run P w = .ok (.value (.pointer (some ⟨w.heap.size, 0, none⟩))) (w.alloc (.cells z.cells.toList.toArray e)) := by
    simp [execOp, ho, Instr.alloc, newVar, run_newRow, info_zero hz]
  rw [hr]
  exact ⟨w.heap.size, by simp [cn, cn1, cn0, adr], hw.below.size, (hw.below.trans ((below_alloc _ _ _).mono hw.below.size)), by show (w.heap.push _)[w.heap.size]? = _; simp⟩
theorem V.loopW {G : Type} {body : Code} (I : G → World → Prop) (Ev' : G → Env) (Ec : Env) (μ : G → Nat) (g0 : G)
    (hE : ∀ t u, Env.get (Ev' g0 ++ Ec) t = some u → E.get t = some u) (h0 : ∀ w, Hp w0 O w → I g0 w)
    (round : ∀ g w, I g w → V P n w [] (Ev' g ++ Ec) body (Exit.then (fun a w => ∃ g', I g' w ∧ Models n (Ev' g' ++ Ec) a ∧ μ g' < μ g) Q)) :
    V P n w0 O E (.loop body) Q := by
  intro a w ha hw
  intro b k cs
  have key : ∀ m (g : G), μ g = m → ∀ a w, I g w → Models n (Ev' g ++ Ec) a →
      ∃ e a' w', Q e a' w' ∧ Arrives P (lone (b.at a (.code body :: .inLoop body :: k)) cs w) b k cs e a' w' := by
    intro m
    induction m using Nat.strongRecOn with
    | _ m ih =>
      intro g hm a w hg ha
      obtain ⟨e, a₁, w₁, hq, harr⟩ := round g w hg a w ha (Hp.refl w) b (.inLoop body :: k) cs
      cases e with
      | normal =>
        obtain ⟨g', hg', ha', hlt⟩ := hq
        obtain ⟨e₂, a₂, w₂, hq₂, harr₂⟩ := ih (μ g') (hm ▸ hlt) g' rfl a₁ w₁ hg' ha'
        exact ⟨e₂, a₂, w₂, hq₂, .of_steps (Steps.trans harr (.one step_inLoop)) harr₂⟩
      | exit id => exact ⟨_, a₁, w₁, hq, .pass (x := .inLoop body) rfl (fun _ _ => .inl (by simp)) harr⟩
      | goto l => exact ⟨_, a₁, w₁, hq, .pass (x := .inLoop body) rfl (fun _ _ => .inl (by simp)) harr⟩
      | ret => exact ⟨_, a₁, w₁, hq, .pass (x := .inLoop body) rfl (fun _ _ => .inl (by simp)) harr⟩
      | panic ch => exact ⟨_, a₁, w₁, hq, .pass (x := .inLoop body) rfl (fun _ _ => .inl (by simp)) harr⟩
      | outgrown => exact ⟨_, a₁, w₁, hq, .pass (x := .inLoop body) rfl (fun _ _ => .inl (by simp)) harr⟩
  obtain ⟨e, a', w', hq, harr⟩ := key (μ g0) g0 rfl a w (h0 w hw) (ha.mono hE)
  exact ⟨e, a', w', hq, .of_steps (.one step_loop) harr⟩
theorem VL.anyS {X : Type} {u : X → Value} {R : X → World → Prop} (hg : Wants ops E o) (hd : o.dst = none) (hy : ∀ ρ w, Ev E o.op ρ → Hp w0 O w → ResOk P (fun v w' => ∃ x, cn v = u x ∧ R x w') ((execOp ρ o).run P w))
    (h : ∀ x w', R x w' → VL P n w' [] E ops Q rest) : VL P n w0 O E ops Q (o :: rest) := by
  intro a w ha hw
  refine wpList_step fun K hK => ?_
  rw [if_pos (hg.wanted ha)]
  unfold Oper.wp
  refine (hy a.eval w (ha.ev _) hw).upon fun v w' ⟨x, h1, h2⟩ => hK _ _ ?_
  exact h x w' h2 _ _ (by rw [hd]; exact ha) (Hp.refl w')
def RoundW {G : Type} (n : Nat) (Ec : Env) (I : G → World → Prop) (Ev' : G → Env) (μ : G → Nat) (g : G) : Act → World → Prop :=
  fun a w => ∃ g', I g' w ∧ Models n (Ev' g' ++ Ec) a ∧ μ g' < μ g
theorem V.loopV {G : Type} {body : Code} (Ec : Env) (I : G → World → Prop) (Ev' : G → Env) (μ : G → Nat) (g0 : G)
    (hc : Cov E Ec) (hE : Cov E (Ev' g0)) (h0 : ∀ w, Hp w0 O w → I g0 w)
    (round : ∀ g w, I g w → V P n w [] (Ev' g ++ Ec) body (Exit.then (RoundW n Ec I Ev' μ g) Q)) :
    V P n w0 O E (.loop body) Q := V.loopW I Ev' Ec μ g0 (hE.append hc).get h0 round
theorem VE.roundW {G : Type} {Ec : Env} {I : G → World → Prop} {Ev' : G → Env} {μ : G → Nat} {g : G} (g' : G)
    (hE : Cov E (Ev' g')) (hc : Cov E Ec) (hI : ∀ w, Hp w0 O w → I g' w) (hμ : μ g' < μ g) :
    VE n w0 O E (Exit.then (RoundW n Ec I Ev' μ g) Q) .normal :=
  fun _ w ha hw => ⟨g', hI w hw, ha.mono (hE.append hc).get, hμ⟩
theorem heap_set {w : World} {b i : Nat} {c : Array Value} {T : TypeId} {z : Nat × Nat} (h : w.heap[b]? = some (.cells c T z)) (v : Value) : (w.setCell ⟨b, i, none⟩ v).heap[b]? = some (.cells (c.setIfInBounds i v) T z) := by
  simp [World.setCell, Array.getElem?_modify, h]
theorem cn0_ptr {u : Value} (h : cn0 u = .pointer none) : u = .pointer none := by
  cases u <;> simp [cn0] at h ⊢ <;> exact h
theorem cn0_sli {u : Value} (h : cn0 u = .slice none 0 0) : u = .slice none 0 0 := by
  cases u <;> simp [cn0] at h ⊢ <;> exact h
theorem ya_store2 {t T : TypeId} {x y : Operand} {b : Nat} (ho : o.op = .store t x y) (hz : (P.info? t).map (·.size) = some 2) (hx : E.opd x = some (.pointer (some (adr (some ⟨b, 0, none⟩) 0)))) (hy : E.opd y = some (.agg #[.pointer none, .slice none 0 0]))
    (hb : w0.heap[b]? = some (.cells #[.pointer none, .slice none 0 0] T (0, 0))) :
    ∀ ρ w, Ev E o.op ρ → Hp w0 O w → ResOk P (fun v w' => ∃ _x : Unit, cn v = undef ∧ (w'.heap[b]? = some (.cells #[.pointer none, .slice none 0 0] T (0, 0)) ∧ Below b w0 w')) ((execOp ρ o).run P w) := by
  intro ρ w hE hw
  have e1 := cn_pointer (hE.get (x := x) (by simp [ho, Op.operands]) hx)
  have e2 := hE.get (x := y) (by simp [ho, Op.operands]) hy
  obtain ⟨ws, h1, h2⟩ := cn_agg e2
  have hlt : b < w0.heap.size := by
    rcases Nat.lt_or_ge b w0.heap.size with h' | h'
    · exact h'
    · rw [Array.getElem?_eq_none h'] at hb; cases hb
  have hbw : w.heap[b]? = some (.cells #[.pointer none, .slice none 0 0] T (0, 0)) := by rw [hw.below.block b hlt]; exact hb
  have h3 : ws = #[.pointer none, .slice none 0 0] := by
    obtain ⟨l⟩ := ws
    match l, h2 with
    | [], h2 => simp at h2
    | [_], h2 => simp at h2
    | [u, v], h2 =>
      simp at h2
      rw [cn0_ptr h2.1, cn0_sli h2.2]
    | _ :: _ :: _ :: _, h2 => simp at h2
  subst h3
  have q0 := run_store_scal (P := P) (w := w) (a := ⟨b, 0, none⟩) (v := .pointer none) (v0 := .pointer none) rfl (by simp [World.cell?, hbw]) (by simp [World.frozen?, hbw])
  have hb1 := heap_set (i := 0) hbw (.pointer none)
  have q1 := run_store_scal (P := P) (w := w.setCell ⟨b, 0, none⟩ (.pointer none)) (a := ⟨b, 1, none⟩) (v := .slice none 0 0) (v0 := .slice none 0 0) rfl (by simp [World.cell?, hb1]) (by simp [World.frozen?, hb1])
  have hb2 := heap_set (i := 1) hb1 (.slice none 0 0)
  have hr : (execOp ρ o).run P w = .ok .skip ((w.setCell ⟨b, 0, none⟩ (.pointer none)).setCell ⟨b, 1, none⟩ (.slice none 0 0)) := by
    simp only [execOp, ho, Instr.storeAt, Instr.sureAddr, e1, storeVar, Sem.run_bind, Sem.run_pure, Result.andThen_ok, info_size hz, h1]
    simp [Value.cells, storeCells, adr, Addr.add, q0, q1]
  rw [hr]
  refine ⟨(), by simp [undef, cn], by simpa using hb2, ?_⟩
  exact ((hw.below.mono (Nat.le_of_lt hlt)).setCell (p := ⟨b, 0, none⟩) (Nat.le_refl _) _).setCell (p := ⟨b, 1, none⟩) (Nat.le_refl _) _
end
/-! ### a builder -/
theorem isB_new {T e : TypeId} {B b : Nat} {w : World} (h : w.heap[b]? = some (.cells #[.pointer none, .slice none 0 0] T (0, 0))) (hB : B ≤ b) : Lib.IsBuilder T e B b [] w :=
  .inl ⟨hB, .slice none 0 0, h, ⟨rfl, .inl ⟨rfl, rfl⟩⟩, by simp [Value.ownBlock]⟩
theorem old_same {w w' : World} {k : Nat} {o : Obj} (hb : Below w.heap.size w w') (h : w.heap[k]? = some o) : w'.heap[k]? = some o := by
  have hlt : k < w.heap.size := by
    rcases Nat.lt_or_ge k w.heap.size with h' | h'
    · exact h'
    · rw [Array.getElem?_eq_none h'] at h; cases h
  rw [hb.block k hlt]; exact h
theorem isBAt_keep {T e : TypeId} {B b : Nat} {p : Value} {bs : List Value} {w w' : World} (h : Lib.BuilderAt T e B b p bs w) (hb : Below w.heap.size w w') : Lib.BuilderAt T e B b p bs w' := by
  obtain ⟨h1, v, h2, ⟨h3, h4⟩, h5⟩ := h
  refine ⟨h1, v, old_same hb h2, ⟨h3, ?_⟩, h5⟩
  rcases h4 with h4 | ⟨g, cap, cur, f1, f2, f3, f4⟩
  · exact .inl h4
  · exact .inr ⟨g, cap, cur, f1, f2, old_same hb f3, f4⟩
theorem isB_keep {T e : TypeId} {B b : Nat} {bs : List Value} {w w' : World} (h : Lib.IsBuilder T e B b bs w) (hb : Below w.heap.size w w') : Lib.IsBuilder T e B b bs w' :=
  h.elim (fun h => .inl (isBAt_keep h hb)) (fun h => .inr (isBAt_keep h hb))
end Go.Proofs.YtmecikeaogjmpaaDoor


namespace Go.Proofs.YtmecikeaogjmpaaDoor
open Go.Shelf
def ren166 : Go.Shelf.Ren := ⟨fun | 166 => 27 | 240 => 44 | 276 => 67 | n => n, fun | 0 => 0 | 1 => 1 | 2 => 2 | 3 => 3 | 4 => 4 | 5 => 5 | 6 => 6 | 7 => 7 | 8 => 8 | 9 => 9 | 10 => 10 | 11 => 11 | 12 => 12 | 13 => 13 | 14 => 14 | 15 => 15 | 16 => 16 | 17 => 17 | 18 => 18 | 19 => 19 | 20 => 20 | 21 => 21 | 22 => 54 | 24 => 27 | 27 => 78 | 31 => 25 | 37 => 34 | 38 => 35 | 46 => 121 | 47 => 150 | 51 => 133 | 52 => 154 | 53 => 85 | 54 => 129 | 55 => 82 | 59 => 83 | 60 => 84 | 61 => 76 | 70 => 51 | 71 => 52 | 72 => 53 | 74 => 57 | 75 => 58 | 76 => 59 | 77 => 60 | 80 => 63 | 81 => 62 | 83 => 68 | 84 => 80 | 101 => 30 | 102 => 29 | 103 => 141 | 104 => 24 | 105 => 142 | 106 => 143 | 111 => 149 | 113 => 118 | 114 => 127 | 119 => 159 | 127 => 81 | 137 => 160 | 138 => 161 | 139 => 162 | 146 => 144 | 150 => 126 | 151 => 145 | 164 => 119 | 165 => 120 | 171 => 128 | 172 => 130 | 173 => 131 | 174 => 132 | n => n, fun | n => n⟩
theorem lays166 : Go.Proofs.Lays.n166 Tryd.prog ren166 := {
  mixed := by kernel_rfl
  f166 := Tryd.func27.trans (congrArg some (by kernel_rfl))
  f240 := Tryd.func44.trans (congrArg some (by kernel_rfl))
  f276 := Tryd.func67.trans (congrArg some (by kernel_rfl))
  t0 := Tryd.underlying0
  a0 := Tryd.isAgg0
  z0 := Tryd.sizeOf0
  v0 := Tryd.zeroValue0
  t3 := Tryd.underlying3
  a3 := Tryd.isAgg3
  z3 := Tryd.sizeOf3
  v3 := Tryd.zeroValue3
  t4 := Tryd.underlying4
  a4 := Tryd.isAgg4
  z4 := Tryd.sizeOf4
  v4 := Tryd.zeroValue4
  t9 := Tryd.underlying9
  a9 := Tryd.isAgg9
  z9 := Tryd.sizeOf9
  v9 := Tryd.zeroValue9
  t20 := Tryd.underlying20
  a20 := Tryd.isAgg20
  z20 := Tryd.sizeOf20
  v20 := Tryd.zeroValue20
  t37 := Tryd.underlying34
  a37 := Tryd.isAgg34
  z37 := Tryd.sizeOf34
  v37 := Tryd.zeroValue34
  t70 := Tryd.underlying51
  a70 := Tryd.isAgg51
  z70 := Tryd.sizeOf51
  v70 := Tryd.zeroValue51
  t72 := Tryd.underlying53
  a72 := Tryd.isAgg53
  z72 := Tryd.sizeOf53
  v72 := Tryd.zeroValue53
  t75 := Tryd.underlying58
  a75 := Tryd.isAgg58
  z75 := Tryd.sizeOf58
  v75 := Tryd.zeroValue58
  t164 := Tryd.underlying119
  a164 := Tryd.isAgg119
  z164 := Tryd.sizeOf119
  v164 := Tryd.zeroValue119 }
theorem extra166 : Builder.Extra Tryd.prog ren166 := {
  sizeBuilder := by kernel_rfl
  liesBuilder := by kernel_rfl
  t5 := Tryd.underlying5
  a5 := Tryd.isAgg5
  z5 := Tryd.sizeOf5
  v5 := Tryd.zeroValue5
  infoByte := by kernel_rfl
  cellsByte := by kernel_rfl
  sizeByte := by kernel_rfl
  neB5 := by decide }
open Go.RowKit in
theorem wrStr (B b : Nat) (bs : List Value) (s : ByteArray) (w : World) (h : Lib.IsBuilder 53 5 B b bs w) (hlen : bs.length + s.size ≤ 140737488355328) (hBw : B ≤ w.heap.size) :
    Calls Tryd.prog 27 #[.pointer (some ⟨b, 0, none⟩), .string s] w fun e w' => e = .returned (.tuple #[.int .i64 s.size, .nilIface]) ∧ (Lib.BuilderAt 53 5 B b (.pointer (some ⟨b, 0, none⟩)) (bs ++ Lib.strCells s) w' ∧ Below B w w') := Any.Builder_WriteString lays166 extra166 B b bs s w h hlen hBw
end Go.Proofs.YtmecikeaogjmpaaDoor


namespace Go.Proofs.YtmecikeaogjmpaaDoor
open Go.RowKit
set_option linter.unusedVariables false
set_option linter.unusedSimpArgs false
set_option maxRecDepth 20000

theorem lay53_Ji : Lay Tryd.prog 53 [Value.pointer none, Value.slice none 0 0] [(0, 1), (1, 1)] := Lay.mk' (by kernel_rfl) (by kernel_rfl)
theorem zero53_Ji : (Tryd.prog.info? 53).bind (·.zero) = some (Value.agg #[Value.pointer none, Value.slice none 0 0]) := by kernel_rfl
theorem sz53_Ji : (Tryd.prog.info? 53).map (·.size) = some 2 := by kernel_rfl
theorem sz9_Ji : (Tryd.prog.info? 9).map (·.size) = some 1 := by kernel_rfl
theorem fb9_Ji : flatB Tryd.prog 9 = true := by kernel_rfl
theorem known25_Ji : Known Tryd.prog 25 := Known.mk' Tryd.func25 (by kernel_rfl)
theorem known26_Ji : Known Tryd.prog 26 := Known.mk' Tryd.func26 (by kernel_rfl)
theorem known28_Ji : Known Tryd.prog 28 := Known.mk' Tryd.func28 (by kernel_rfl)
theorem known27_Ji : Known Tryd.prog 27 := Known.mk' Tryd.func27 (by kernel_rfl)
theorem known29_Ji : Known Tryd.prog 29 := Known.mk' Tryd.func29 (by kernel_rfl)
theorem known30_Ji : Known Tryd.prog 30 := Known.mk' Tryd.func30 (by kernel_rfl)
theorem c_contains {w : World} {s : ByteArray} : Pure Tryd.prog 25 [.string s, .string ⟨#[10]⟩] w (.bool (hasNL s)) := by
  intro vs hv
  obtain rfl := str_args2 hv
  refine (Tryd.strings_Contains_one s 10 w).mono ?_
  rintro e w' ⟨rfl, rfl⟩
  exact ⟨_, rfl, rfl, Below.refl _ _⟩
theorem ptr_str2 {vs : Array Value} {p : Option Addr} {b : ByteArray} (h : vs.toList.map cn = [.pointer p, .string b]) : vs = #[.pointer p, .string b] := by
  obtain ⟨l⟩ := vs
  match l, h with
  | [], h => simp at h
  | [_], h => simp at h
  | [x, y], h =>
    simp only [List.map_cons, List.map_nil, List.cons.injEq, and_true] at h
    rw [cn_pointer h.1, cn_string h.2]
  | _ :: _ :: _ :: _, h => simp at h
theorem ptr_1 {vs : Array Value} {p : Option Addr} (h : vs.toList.map cn = [.pointer p]) : vs = #[.pointer p] := by
  obtain ⟨l⟩ := vs
  match l, h with
  | [], h => simp at h
  | [x], h =>
    simp only [List.map_cons, List.map_nil, List.cons.injEq, and_true] at h
    rw [cn_pointer h]
  | _ :: _ :: _, h => simp at h
theorem cells_app (t s : ByteArray) : Go.Lib.byteCells t.data.toList ++ Go.Lib.strCells s = Go.Lib.byteCells (t ++ s).data.toList := by
  unfold Go.Lib.byteCells Go.Lib.strCells
  rw [← List.map_append]
  congr 1
theorem cells_len (t : ByteArray) : (Go.Lib.byteCells t.data.toList).length = t.size := by
  unfold Go.Lib.byteCells
  rw [List.length_map]
  rfl
theorem wr_go {w6 w7 : World} {B b : Nat} {t s : ByteArray} (h : Go.Lib.IsBuilder 53 5 B b (Go.Lib.byteCells t.data.toList) w7) (hl : t.size + s.size ≤ 140737488355328) (hB : B ≤ w7.heap.size) (h67 : Below B w6 w7) {vs : Array Value}
    (hv : vs.toList.map cn = [.pointer (some (adr (some ⟨b, 0, none⟩) 0)), .string s]) :
    Calls Tryd.prog 27 vs w7 (fun e w' => ∃ v, e = .returned v ∧ ∃ _x : Unit, cn v = .tuple #[.int .i64 s.size, .nilIface] ∧ (Go.Lib.IsBuilder 53 5 B b (Go.Lib.byteCells (t ++ s).data.toList) w' ∧ Below B w6 w')) := by
  obtain rfl := ptr_str2 hv
  refine (wrStr B b _ s w7 h (by rw [cells_len]; exact hl) hB).mono ?_
  rintro e w' ⟨rfl, h1, h2⟩
  exact ⟨_, rfl, (), by simp [cn, cn1, cn0], .inr (by rw [← cells_app]; exact h1), h67.trans h2⟩
theorem c_lenB {w : World} {B b : Nat} {t : ByteArray} (h : Go.Lib.IsBuilder 53 5 B b (Go.Lib.byteCells t.data.toList) w) : Pure Tryd.prog 29 [.pointer (some (adr (some ⟨b, 0, none⟩) 0))] w (.int .i64 (t.size : Int)) := by
  intro vs hv
  obtain rfl := ptr_1 hv
  refine (Tryd.Builder_Len B b _ w h).mono ?_
  rintro e w' ⟨rfl, rfl⟩
  exact ⟨_, rfl, by rw [cells_len]; rfl, Below.refl _ _⟩
theorem str_go {w6 w7 : World} {B b : Nat} {t : ByteArray} (h : Go.Lib.IsBuilder 53 5 B b (Go.Lib.byteCells t.data.toList) w7) (hB : B ≤ w7.heap.size) (h67 : Below B w6 w7) {vs : Array Value}
    (hv : vs.toList.map cn = [.pointer (some (adr (some ⟨b, 0, none⟩) 0))]) :
    Calls Tryd.prog 30 vs w7 (fun e w' => ∃ v, e = .returned v ∧ ∃ _x : Unit, cn v = .string t ∧ Below B w6 w') := by
  obtain rfl := ptr_1 hv
  refine (Tryd.Builder_String_any B b _ w7 h hB).mono ?_
  rintro e w' ⟨rfl, h2⟩
  exact ⟨_, rfl, (), rfl, h67.trans h2⟩
attribute [local irreducible] mt dN chkK chk num txt fnd good go recO recN rO rN rB scmp List.getD stb dec szS hasNL jR jOk

theorem c_implJo {w : World} {a : Option Addr} {c : Nat} {ss : List ByteArray} {m : Int} (hA : Cl w a (sx ss)) (hM : Cl w (some ⟨0, 0, none⟩) [.int .i64 m]) (hT : Go.Lib.TabIs Tryd.prog w "internal/strconv.uint64pow10" .u64 Go.Lib.pow10Tab) (hn : ss.length ≤ 1048576) (hr : ∀ i, i < ss.length → (ss.getD i emB).size ≤ 1048576) : Pure Tryd.prog 12 [.slice a ss.length c] w (.tuple #[.string (jR ss), .bool (jOk ss)]) := by
  refine Pure.enter Tryd.func12 rfl Tryd.ntmps12 (Nat.le_of_ble_eq_true rfl) ?_
  refine V.seq ?_
  refine V.region ?_
  refine VL.r (.inl rfl) rfl (by decide) (yr_assign rfl rfl) ?_
  refine VL.r (.inl rfl) rfl (by decide) (yr_assign (u := .bool false) rfl rfl) ?_
  refine VL.nil ?_
  refine VE.then_wp ?_
  refine V.seq ?_
  refine V.region ?_
  refine VL.r (.inl rfl) rfl (by decide) (yr_build rfl lay53_Ji rfl .nil (by first | (simp; done) | (simp [vv]; done) | (simp [cn, cn1, cn0]; done)) rfl) ?_
  refine VL.any (.inl rfl) rfl (by decide) (ya_alloc rfl zero53_Ji) ?_
  rintro b4 w4 ⟨hb4, hB4, hc4⟩
  refine VL.anyS (.inl rfl) rfl (ya_store2 rfl sz53_Ji rfl rfl hc4) ?_
  rintro ⟨⟩ w5 ⟨hc5, hB5⟩
  have hB : Below w.heap.size w w5 := hB4.trans (hB5.mono hb4)
  refine VL.nil ?_
  refine VE.then_wp ?_
  refine V.seq ?_
  refine V.region ?_
  refine VL.r (.inl rfl) rfl (by decide) (yr_assign (u := .int .i64 0) rfl rfl) ?_
  refine VL.nil ?_
  refine VE.then_wp ?_
  refine V.seq ?_
  refine V.seq ?_
  refine V.region ?_
  refine VL.r (.inl rfl) rfl (by decide) (yr_move rfl rfl) ?_
  refine VL.r (.inl rfl) rfl (by decide) (yr_len rfl Tryd.underlying25 rfl) ?_
  refine VL.r (.inl rfl) rfl (by decide) (yr_move (u := .int .i64 0) rfl rfl) ?_
  refine VL.nil ?_
  refine VE.then_wp ?_
  refine V.block ?_
  refine V.loopV (G := Nat) [(4, _), (9, _), (10, _)] (fun (k : Nat) (w' : World) => Go.Lib.IsBuilder 53 5 w.heap.size b4 (Go.Lib.byteCells (jT ss k).data.toList) w' ∧ Below w.heap.size w w' ∧ k ≤ ss.length ∧ noNL ss k = true ∧ (jT ss k).size ≤ 12000) (fun (k : Nat) => [(5, .int .i64 ((jC ss k : Nat) : Int)), (11, .int .i64 (k : Int))]) (fun (k : Nat) => ss.length - k) 0 (.cons rfl (.cons rfl (.cons rfl .nil))) (.cons rfl (.cons rfl .nil)) ?_ ?_
  · exact fun w6 hw6 => ⟨isB_keep (isB_new hc5 hb4) hw6.below, hB.trans (hw6.below.mono hB.size), Nat.zero_le _, noNL_0 ss, Nat.zero_le _⟩
  rintro k w6 ⟨hI6, hB6, hk, hn6, hz6⟩
  have hp6 : Hp w [] w6 := ⟨hB6, (fun _ h => by cases h), .nil⟩
  have hA6 : Cl w6 a (sx ss) := Sees.root hA w6 hp6
  have hM6 : Cl w6 (some ⟨0, 0, none⟩) [.int .i64 m] := Sees.root hM w6 hp6
  have hT6 := tab_keep hT hB6
  have hrk := hr k
  have hjc := jC_lt ss k
  have hjl := jT_lo ss k
  show V _ _ _ _ ([(5, .int .i64 ((jC ss k : Nat) : Int)), (11, .int .i64 (k : Int))] ++ [(4, _), (9, _), (10, _)]) _ _
  refine V.seq ?_
  refine V.region ?_
  refine VL.r (.inl rfl) rfl (by decide) (yr_icmp rfl (.inr (.inr (.inl rfl))) rfl rfl) ?_
  refine VL.nil ?_
  refine VE.then_wp ?_
  refine V.seq ?_
  refine V.cond rfl (fun h1 => ?_) (fun h1 => ?_)
  · skip
    replace h1 := ic_lss h1
    have hrk2 := hrk (by omega)
    have hck := chk_lt (s := ss.getD k emB) hjc
    have hd2 := (dec_size (chk (jC ss k) (ss.getD k emB))).2
    have hd3 : (dec (chk (jC ss k) (ss.getD k emB)) ++ ⟨#[32]⟩ : ByteArray).size ≤ 70000 := by rw [app_size]; show _ + 1 ≤ _; omega
    have hd4 : (dec (chk (jC ss k) (ss.getD k emB)) ++ ⟨#[32]⟩ ++ (ss.getD k emB) : ByteArray).size ≤ 70000 + 1048576 := by rw [app_size]; omega
    have hd5 : (ln1 (chk (jC ss k) (ss.getD k emB)) (ss.getD k emB)).size ≤ 2000000 := by rw [ln1_size]; omega
    refine V.skip ?_
    refine VE.then_wp ?_
    refine V.seq ?_
    refine V.block ?_
    refine V.seq ?_
    refine V.region ?_
    refine VL.q (.inl rfl) rfl (by decide) (yq_idx (k := k) rfl Tryd.underlying25 sz9_Ji rfl rfl (by first | exact Sees.root (by assumption) | exact Sees.own (by repeat (first | exact List.mem_cons_self | exact List.mem_append_left _ (by assumption) | apply List.mem_cons_of_mem | apply List.mem_append_right)) | exact Sees.root (hR _ (by omega)) | exact Sees.own (RowsIn.mem (by repeat (first | exact RowsIn.here | exact RowsIn.last | apply RowsIn.there | apply RowsIn.thereS)) _ (by omega)) | exact Sees.own (WRowsIn.mem (by repeat (first | exact WRowsIn.here | exact WRowsIn.last | apply WRowsIn.there | apply WRowsIn.thereS)) _ (by omega))) (by first | rfl | omega | (push_cast; rfl) | (push_cast; omega) | exact tmod_nat _ _) (by first | exact sx_length _ | (rw [sx_length]; omega)) (by omega)) ?_
    refine VL.q (.inl rfl) rfl (by decide) (yq_load (u := .string (ss.getD k emB)) rfl fb9_Ji rfl (by first | exact Sees.root (by assumption) | exact Sees.own (by repeat (first | exact List.mem_cons_self | exact List.mem_append_left _ (by assumption) | apply List.mem_cons_of_mem | apply List.mem_append_right)) | exact Sees.root (hR _ (by omega)) | exact Sees.own (RowsIn.mem (by repeat (first | exact RowsIn.here | exact RowsIn.last | apply RowsIn.there | apply RowsIn.thereS)) _ (by omega)) | exact Sees.own (WRowsIn.mem (by repeat (first | exact WRowsIn.here | exact WRowsIn.last | apply WRowsIn.there | apply WRowsIn.thereS)) _ (by omega))) (sx_get (by omega))) ?_
    refine VL.r (.inl rfl) rfl (by decide) (yr_assign rfl rfl) ?_
    refine VL.nil ?_
    refine VE.then_wp ?_
    refine V.seq ?_
    refine V.seq ?_
    refine V.region ?_
    refine VL.r (.inl rfl) rfl (by decide) (yr_move rfl rfl) ?_
    refine VL.q (.inl rfl) rfl (by decide) (yq_callf rfl known25_Ji (.cons rfl (.cons rfl .nil)) (fun w hw => c_contains)) ?_
    refine VL.nil ?_
    refine VE.then_wp ?_
    refine V.cond rfl (fun h2 => ?_) (fun h2 => ?_)
    · skip
      refine V.seq ?_
      refine V.region ?_
      refine VL.r (.inl rfl) rfl (by decide) (yr_assign rfl rfl) ?_
      refine VL.r (.inl rfl) rfl (by decide) (yr_assign (u := .bool false) rfl rfl) ?_
      refine VL.nil ?_
      refine VE.then_wp ?_
      refine V.ret ?_
      refine VE.then_ret ?_
      refine VE.block_ret ?_
      refine VE.then_ret ?_
      refine VE.then_ret ?_
      refine VE.block_ret ?_
      refine VE.then_ret ?_
      refine ret2 rfl rfl rfl (by nofun) (by nofun) (fun w1 hw => ?_)
      obtain ⟨e1, e2⟩ := j_bad1 (ss := ss) (k := k) (by omega) h2
      exact ⟨by rw [e1, e2]; rfl, hB6.trans (hw.below.mono hB6.size)⟩
    · skip
      refine V.skip ?_
      refine VE.then_wp ?_
      refine V.seq ?_
      refine V.region ?_
      refine VL.r (.inl rfl) rfl (by decide) (yr_move rfl rfl) ?_
      refine VL.r (.inl rfl) rfl (by decide) (yr_move rfl rfl) ?_
      refine VL.q (.inl rfl) rfl (by decide) (yq_callf rfl known26_Ji (.cons rfl (.cons rfl .nil)) (fun w hw => (c_checkOf (by omega) (by omega)))) ?_
      refine VL.r (.inl rfl) rfl (by decide) (yr_move rfl rfl) ?_
      refine VL.r (.inl rfl) rfl (by decide) (yr_extract rfl rfl rfl (by nofun)) ?_
      refine VL.r (.inl rfl) rfl (by decide) (yr_extract rfl rfl rfl (by nofun)) ?_
      refine VL.r (.inl rfl) rfl (by decide) (yr_assign rfl rfl) ?_
      refine VL.nil ?_
      refine VE.then_wp ?_
      refine V.seq ?_
      refine V.region ?_
      refine VL.r (.inl rfl) rfl (by decide) (yr_move rfl rfl) ?_
      refine VL.q (.inl rfl) rfl (by decide) (yq_callf rfl known28_Ji (.cons rfl .nil) (fun w hw => (c_decimal (tab_keep hT6 hw.below) (by omega)))) ?_
      refine VL.r (.inl rfl) rfl (by decide) (yr_strAdd (c := dec (chk (jC ss k) (ss.getD k emB)) ++ ⟨#[32]⟩) rfl rfl rfl (cat_bd (by omega) (by first | omega | decide)) rfl) ?_
      refine VL.r (.inl rfl) rfl (by decide) (yr_move rfl rfl) ?_
      refine VL.r (.inl rfl) rfl (by decide) (yr_strAdd (c := dec (chk (jC ss k) (ss.getD k emB)) ++ ⟨#[32]⟩ ++ (ss.getD k emB)) rfl rfl rfl (cat_bd (by omega) (by first | omega | decide)) rfl) ?_
      refine VL.r (.inl rfl) rfl (by decide) (yr_strAdd (c := ln1 (chk (jC ss k) (ss.getD k emB)) (ss.getD k emB)) rfl rfl rfl (cat_bd (by omega) (by first | omega | decide)) rfl) ?_
      refine VL.any (.inl rfl) rfl (by decide) (ya_call rfl known27_Ji (.cons rfl (.cons rfl .nil)) (fun w7 hw7 vs hv => wr_go (isB_keep hI6 hw7.below) (by omega) (Nat.le_trans hB6.size hw7.below.size) (hw7.below.mono hB6.size) hv)) ?_
      rintro ⟨⟩ w8 ⟨hI8, hB68⟩
      have hB8 : Below w.heap.size w w8 := hB6.trans hB68
      replace hI8 : Go.Lib.IsBuilder 53 5 w.heap.size b4 (Go.Lib.byteCells (jT ss (k + 1)).data.toList) w8 := hI8
      refine VL.nil ?_
      refine VE.then_wp ?_
      refine V.seq ?_
      refine V.region ?_
      refine VL.q (.inl rfl) rfl (by decide) (yq_callf rfl known29_Ji (.cons rfl .nil) (fun w hw => c_lenB (isB_keep hI8 hw.below))) ?_
      refine VL.r (.inl rfl) rfl (by decide) (yr_icmp rfl (.inr (.inr (.inr (.inr (.inl rfl))))) rfl rfl) ?_
      refine VL.nil ?_
      refine VE.then_wp ?_
      refine V.cond rfl (fun h3 => ?_) (fun h3 => ?_)
      · skip
        replace h3 := ic_gtr h3
        refine V.seq ?_
        refine V.region ?_
        refine VL.r (.inl rfl) rfl (by decide) (yr_assign rfl rfl) ?_
        refine VL.r (.inl rfl) rfl (by decide) (yr_assign (u := .bool false) rfl rfl) ?_
        refine VL.nil ?_
        refine VE.then_wp ?_
        refine V.ret ?_
        refine VE.block_ret ?_
        refine VE.then_ret ?_
        refine VE.then_ret ?_
        refine VE.block_ret ?_
        refine VE.then_ret ?_
        refine ret2 rfl rfl rfl (by nofun) (by nofun) (fun w1 hw => ?_)
        obtain ⟨e1, e2⟩ := j_bad2 (ss := ss) (k := k + 1) (by omega) (by omega)
        exact ⟨by rw [e1, e2]; rfl, hB8.trans (hw.below.mono hB8.size)⟩
      · skip
        replace h3 := ic_gtr' h3
        refine V.skip ?_
        refine VE.block_normal ?_
        refine VE.then_wp ?_
        refine V.region ?_
        refine VL.r (.inl rfl) rfl (by decide) (yr_int rfl rfl rfl (.inl ⟨rfl, wrap_in (by omega)⟩)) ?_
        refine VL.r (.inl rfl) rfl (by decide) (yr_move rfl rfl) ?_
        refine VL.nil ?_
        refine VE.roundW (k + 1) ?_ ?_ ?_ ?_
        · exact (.cons rfl (.cons rfl .nil))
        · exact (.cons rfl (.cons rfl (.cons rfl .nil)))
        · exact fun w9 hw9 => ⟨isB_keep hI8 hw9.below, hB8.trans (hw9.below.mono hB8.size), by omega, noNL_y hn6 h2, by omega⟩
        · (try dsimp only); omega
  · skip
    replace h1 := ic_lss' h1
    refine V.exit ?_
    refine VE.then_exit ?_
    refine VE.then_exit ?_
    refine VE.block_here ?_
    refine VE.then_wp ?_
    refine V.seq ?_
    refine V.region ?_
    obtain rfl : k = ss.length := by omega
    refine VL.any (.inl rfl) rfl (by decide) (ya_call rfl known30_Ji (.cons rfl .nil) (fun w7 hw7 vs hv => str_go (isB_keep hI6 hw7.below) (Nat.le_trans hB6.size hw7.below.size) (hw7.below.mono hB6.size) hv)) ?_
    rintro ⟨⟩ w8 hB68
    have hB8 : Below w.heap.size w w8 := hB6.trans hB68
    refine VL.r (.inl rfl) rfl (by decide) (yr_assign rfl rfl) ?_
    refine VL.r (.inl rfl) rfl (by decide) (yr_assign (u := .bool true) rfl rfl) ?_
    refine VL.nil ?_
    refine VE.then_wp ?_
    refine V.ret ?_
    refine ret2 rfl rfl rfl (by nofun) (by nofun) (fun w1 hw => ?_)
    obtain ⟨e1, e2⟩ := j_good hn6 hz6
    exact ⟨by rw [e1, e2], hB8.trans (hw.below.mono hB8.size)⟩

end Go.Proofs.YtmecikeaogjmpaaDoor


namespace Go.Proofs.YtmecikeaogjmpaaDoor
open Go.RowKit
set_option linter.unusedVariables false
set_option linter.unusedSimpArgs false
set_option maxRecDepth 20000

theorem known9_Jl : Known Tryd.prog 9 := Known.mk' Tryd.func9 (by kernel_rfl)
theorem known11_Jl : Known Tryd.prog 11 := Known.mk' Tryd.func11 (by kernel_rfl)
theorem known10_Jl : Known Tryd.prog 10 := Known.mk' Tryd.func10 (by kernel_rfl)
theorem known12_Jl : Known Tryd.prog 12 := Known.mk' Tryd.func12 (by kernel_rfl)
theorem known13_Jl : Known Tryd.prog 13 := Known.mk' Tryd.func13 (by kernel_rfl)
attribute [local irreducible] mt dN chkK chk num txt fnd good go recO recN rO rN rB scmp List.getD stb dec szS hasNL jR jOk tot jT jC sumS noNL

theorem law_Jo {w : World} {a : Option Addr} {c : Nat} {ss : List ByteArray} {m : Int} (hA : Cl w a (sx ss)) (hM : Cl w (some ⟨0, 0, none⟩) [.int .i64 m]) (hT : Go.Lib.TabIs Tryd.prog w "internal/strconv.uint64pow10" .u64 Go.Lib.pow10Tab) (hm : ss.length ≤ 9223372036854775807) (hr : ∀ i, i < ss.length → (ss.getD i emB).size ≤ 9223372036854775807) : Pure Tryd.prog 4 [.slice a ss.length c] w (.bool true) := by
  refine Pure.enter Tryd.func4 rfl Tryd.ntmps4 (Nat.le_of_ble_eq_true rfl) ?_
  refine V.seq ?_
  refine V.region ?_
  refine VL.r (.inl rfl) rfl (by decide) (yr_assign (u := .bool false) rfl rfl) ?_
  refine VL.nil ?_
  refine VE.then_wp ?_
  refine V.seq ?_
  refine V.region ?_
  refine VL.r (.inl rfl) rfl (by decide) (yr_assign (u := .int .i64 1048576) rfl rfl) ?_
  refine VL.nil ?_
  refine VE.then_wp ?_
  refine V.seq ?_
  refine V.region ?_
  refine VL.r (.inl rfl) rfl (by decide) (yr_move rfl rfl) ?_
  refine VL.r (.inl rfl) rfl (by decide) (yr_move rfl rfl) ?_
  refine VL.q (.inl rfl) rfl (by decide) (yq_callf rfl known9_Jl (.cons rfl (.cons rfl .nil)) (fun w hw => (c_szStr (by first | exact Sees.root (by assumption) w hw | exact Sees.own (by repeat (first | exact List.mem_cons_self | exact List.mem_append_left _ (by assumption) | apply List.mem_cons_of_mem | apply List.mem_append_right)) w hw) (by omega) (by assumption)))) ?_
  refine VL.r (.inl rfl) rfl (by decide) (yr_assign rfl rfl) ?_
  refine VL.nil ?_
  refine VE.then_wp ?_
  refine V.seq ?_
  refine V.seq ?_
  refine V.region ?_
  refine VL.r (.inl rfl) rfl (by decide) (yr_move rfl rfl) ?_
  refine VL.r (.inl rfl) rfl (by decide) (yr_icmp rfl (.inr (.inr (.inl rfl))) rfl rfl) ?_
  refine VL.nil ?_
  refine VE.then_wp ?_
  refine V.cond rfl (fun h1 => ?_) (fun h1 => ?_)
  · skip
    replace h1 := ic_lss h1
    refine V.seq ?_
    refine V.region ?_
    refine VL.r (.inl rfl) rfl (by decide) (yr_assign (u := .bool true) rfl rfl) ?_
    refine VL.nil ?_
    refine VE.then_wp ?_
    refine V.ret ?_
    refine VE.then_ret ?_
    refine ret1 rfl rfl (fun w1 hw => ?_)
    exact ⟨rfl, hw.below⟩
  · skip
    replace h1 := ic_lss' h1
    have hsz := szS_fits (n := 1048576) (by first | exact h1 | omega)
    have hr9 : ∀ i, i < ss.length → (ss.getD i emB).size ≤ 1048576 := fun i hi => by have := at_sum (ss := ss) hi; omega
    refine V.skip ?_
    refine VE.then_wp ?_
    refine V.seq ?_
    refine V.region ?_
    refine VL.r (.inl rfl) rfl (by decide) (yr_move rfl rfl) ?_
    refine VL.new1 (.inl rfl) rfl (by decide) (yn_callf rfl known11_Jl (.cons rfl .nil) (fun w hw => (c_toStr (by first | exact Sees.root (by assumption) w hw | exact Sees.own (by repeat (first | exact List.mem_cons_self | exact List.mem_append_left _ (by assumption) | apply List.mem_cons_of_mem | apply List.mem_append_right)) w hw) (by omega)))) ?_
    rintro ⟨a16, c16⟩
    refine VL.q (.inl rfl) rfl (by decide) (yq_callf rfl known10_Jl (.cons rfl .nil) (fun w hw => (c_specJo (by first | exact Sees.root (by assumption) w hw | exact Sees.own (by repeat (first | exact List.mem_cons_self | exact List.mem_append_left _ (by assumption) | apply List.mem_cons_of_mem | apply List.mem_append_right)) w hw) (by omega) hr9))) ?_
    refine VL.r (.inl rfl) rfl (by decide) (yr_move rfl rfl) ?_
    refine VL.r (.inl rfl) rfl (by decide) (yr_extract rfl rfl rfl (by nofun)) ?_
    refine VL.r (.inl rfl) rfl (by decide) (yr_extract rfl rfl rfl (by nofun)) ?_
    refine VL.r (.inl rfl) rfl (by decide) (yr_assign rfl rfl) ?_
    refine VL.r (.inl rfl) rfl (by decide) (yr_assign rfl rfl) ?_
    refine VL.nil ?_
    refine VE.then_wp ?_
    refine V.seq ?_
    refine V.region ?_
    refine VL.r (.inl rfl) rfl (by decide) (yr_move rfl rfl) ?_
    refine VL.new1 (.inl rfl) rfl (by decide) (yn_callf rfl known11_Jl (.cons rfl .nil) (fun w hw => (c_toStr (by first | exact Sees.root (by assumption) w hw | exact Sees.own (by repeat (first | exact List.mem_cons_self | exact List.mem_append_left _ (by assumption) | apply List.mem_cons_of_mem | apply List.mem_append_right)) w hw) (by omega)))) ?_
    rintro ⟨a21, c21⟩
    refine VL.r (.inl rfl) rfl (by decide) (yr_assign rfl rfl) ?_
    refine VL.nil ?_
    refine VE.then_wp ?_
    refine V.seq ?_
    refine V.region ?_
    refine VL.r (.inl rfl) rfl (by decide) (yr_move rfl rfl) ?_
    refine VL.q (.inl rfl) rfl (by decide) (yq_callf rfl known12_Jl (.cons rfl .nil) (fun w hw => (c_implJo (by first | exact Sees.root (by assumption) w hw | exact Sees.own (by repeat (first | exact List.mem_cons_self | exact List.mem_append_left _ (by assumption) | apply List.mem_cons_of_mem | apply List.mem_append_right)) w hw) (by first | exact Sees.root (by assumption) w hw | exact Sees.own (by repeat (first | exact List.mem_cons_self | exact List.mem_append_left _ (by assumption) | apply List.mem_cons_of_mem | apply List.mem_append_right)) w hw) (tab_keep hT hw.below) (by omega) hr9))) ?_
    refine VL.r (.inl rfl) rfl (by decide) (yr_move rfl rfl) ?_
    refine VL.r (.inl rfl) rfl (by decide) (yr_extract rfl rfl rfl (by nofun)) ?_
    refine VL.r (.inl rfl) rfl (by decide) (yr_extract rfl rfl rfl (by nofun)) ?_
    refine VL.r (.inl rfl) rfl (by decide) (yr_assign rfl rfl) ?_
    refine VL.r (.inl rfl) rfl (by decide) (yr_assign rfl rfl) ?_
    refine VL.nil ?_
    refine VE.then_wp ?_
    refine V.seq ?_
    refine V.seq ?_
    refine V.region ?_
    refine VL.r (.inl rfl) rfl (by decide) (yr_move rfl rfl) ?_
    refine VL.r (.inl rfl) rfl (by decide) (yr_move rfl rfl) ?_
    refine VL.r (.inl rfl) rfl (by decide) (yr_scmp rfl rfl rfl (.inr rfl)) ?_
    refine VL.r (.inl rfl) rfl (by decide) (yr_move rfl rfl) ?_
    refine VX.split 30 _ rfl (fun h2 => ?_) (fun h2 => ?_)
    · skip
      first | (exfalso; omega) | (simp [bcmp] at h2; done)
    · skip
      refine VL.r (.inr ⟨_, _, _, rfl, rfl, rfl⟩) rfl (by decide) (yr_move rfl rfl) ?_
      refine VL.r (.inr ⟨_, _, _, rfl, rfl, rfl⟩) rfl (by decide) (yr_move rfl rfl) ?_
      refine VL.r (.inr ⟨_, _, _, rfl, rfl, rfl⟩) rfl (by decide) (yr_bcmp rfl Tryd.underlying4 rfl rfl (.inr rfl)) ?_
      refine VL.r (.inl rfl) rfl (by decide) (yr_pick_f rfl rfl rfl) ?_
      refine VL.nil ?_
      refine VE.then_wp ?_
      refine V.cond rfl (fun h3 => ?_) (fun h3 => ?_)
      · skip
        first | (exfalso; omega) | (simp [bcmp] at h3; done)
      · skip
        refine V.skip ?_
        refine VE.then_wp ?_
        refine V.seq ?_
        refine V.seq ?_
        refine V.region ?_
        refine VL.r (.inl rfl) rfl (by decide) (yr_move rfl rfl) ?_
        refine VL.r (.inl rfl) rfl (by decide) (yr_move rfl rfl) ?_
        refine VL.new1 (.inl rfl) rfl (by decide) (yn_callf rfl known11_Jl (.cons rfl .nil) (fun w hw => (c_toStr (by first | exact Sees.root (by assumption) w hw | exact Sees.own (by repeat (first | exact List.mem_cons_self | exact List.mem_append_left _ (by assumption) | apply List.mem_cons_of_mem | apply List.mem_append_right)) w hw) (by omega)))) ?_
        rintro ⟨a37, c37⟩
        refine VL.q (.inl rfl) rfl (by decide) (yq_callf rfl known13_Jl (.cons rfl (.cons rfl .nil)) (fun w hw => (c_eqStr (by first | exact Sees.root (by assumption) w hw | exact Sees.own (by repeat (first | exact List.mem_cons_self | exact List.mem_append_left _ (by assumption) | apply List.mem_cons_of_mem | apply List.mem_append_right)) w hw) (by first | exact Sees.root (by assumption) w hw | exact Sees.own (by repeat (first | exact List.mem_cons_self | exact List.mem_append_left _ (by assumption) | apply List.mem_cons_of_mem | apply List.mem_append_right)) w hw) (by omega)))) ?_
        refine VL.r (.inl rfl) rfl (by decide) (yr_not rfl rfl) ?_
        refine VL.nil ?_
        refine VE.then_wp ?_
        refine V.cond rfl (fun h4 => ?_) (fun h4 => ?_)
        · skip
          replace h4 := bnot_t h4
          first | (exfalso; omega) | (simp [bcmp] at h4; done)
        · skip
          replace h4 := bnot_f h4
          refine V.skip ?_
          refine VE.then_wp ?_
          refine V.seq ?_
          refine V.region ?_
          refine VL.r (.inl rfl) rfl (by decide) (yr_assign (u := .bool true) rfl rfl) ?_
          refine VL.nil ?_
          refine VE.then_wp ?_
          refine V.ret ?_
          refine ret1 rfl rfl (fun w1 hw => ?_)
          exact ⟨rfl, hw.below⟩

end Go.Proofs.YtmecikeaogjmpaaDoor


namespace Go.Proofs.YtmecikeaogjmpaaDoor
open Go.RowKit Go.ChangeShapes Go.WideShapes Go.Deep
section
variable {H : Type} {enc : TypeId × Value → H} {P : Program} {w : World} {base : Nat} {spare : Nat → Bool} {held : Bool}
theorem choose_str {len : Nat} {V : Nat → Value} (h : ∀ i, i < len → ∃ s : ByteArray, V i = .string s ∧ s.size ≤ maxLen) : ∃ B : Nat → ByteArray, ∀ i, i < len → V i = .string (B i) ∧ (B i).size ≤ maxLen := by
  classical
  exact ⟨fun i => if hi : i < len then Classical.choose (h i hi) else emB, fun i hi => by simp only [dif_pos hi]; exact Classical.choose_spec (h i hi)⟩
theorem open_strs {r : Reach} {b0 : Nat} {t e : TypeId} {v : Value} {d : DataW H} {ps : List MemPlace} (ht : P.underlying t = some (.slice e)) (he : P.underlying e = some .string) (hc : P.cellsOf e = 1)
    (hval : Value.okWide P w r b0 t v) (hd : DataW.Trod enc P w base spare held t v d ps) :
    ∃ (a : Option Addr) (ss : List ByteArray) (c : Nat), v = .slice a ss.length c ∧ Cl w a (sx ss) ∧ ss.length ≤ maxLen ∧ ∀ i, i < ss.length → (ss.getD i emB).size ≤ maxLen := by
  obtain ⟨a, len, cap, rfl⟩ := okWide_slice ht hval
  obtain ⟨fuel, hd⟩ := hd
  rcases open_slice1 ht hc hd with ⟨h, _⟩ | ⟨a', len', cap', m, n, V, D, Pl, h, hb, hlc, hm, rfl, hx, hV⟩
  · simp only [Value.cells, List.cons.injEq, Value.slice.injEq, and_true] at h
    obtain ⟨rfl, rfl, rfl⟩ := h
    exact ⟨none, [], 0, rfl, .inl rfl, Nat.zero_le _, fun i hi => by cases hi⟩
  · simp only [Value.cells, List.cons.injEq, Value.slice.injEq, and_true] at h
    obtain ⟨rfl, rfl, rfl⟩ := h
    have hm' : len ≤ (if spare a'.block then cap else len) := by split <;> omega
    have hfl : ∀ i, i < len → ∃ s : ByteArray, V i = .string s ∧ s.size ≤ maxLen := by
      intro i hi
      have := (hV i (by omega)).2
      obtain ⟨s, hk, _, h2⟩ := DataW.trod_string he this
      simp only [List.cons.injEq, and_true] at hk
      exact ⟨s, hk, h2⟩
    obtain ⟨B, hB⟩ := choose_str hfl
    refine ⟨some a', (List.range len).map B, cap, by simp, ?_, by simp; omega, fun i hi => ?_⟩
    · by_cases h0 : len = 0
      · subst h0; exact .inl rfl
      · have hsp : a'.spot = none := by
          have := (hV 0 (by omega)).1
          simpa [Addr.add] using World.cell?_spot this
        obtain ⟨bk, off, spot⟩ := a'
        simp only at hsp
        subst hsp
        refine .inr ⟨_, rfl, rfl, fun i u hu => ?_⟩
        unfold sx at hu
        simp only [List.getElem?_map, Option.map_eq_some_iff, List.map_map] at hu
        obtain ⟨j, hj, rfl⟩ := hu
        have hji : i < len ∧ j = i := by
          rw [List.getElem?_eq_some_iff] at hj
          obtain ⟨h1, h2⟩ := hj
          simp at h1 h2
          exact ⟨h1, h2.symm⟩
        obtain ⟨hi, rfl⟩ := hji
        have h1 := (hV j (by omega)).1
        rw [add_plain] at h1
        refine ⟨V j, h1, ?_⟩
        rw [(hB j hi).1]; rfl
    · simp at hi
      have e : ((List.range len).map B).getD i emB = B i := by simp [List.getD, hi]
      rw [e]
      exact (hB i hi).2
end
end Go.Proofs.YtmecikeaogjmpaaDoor

