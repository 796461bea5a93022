/- Own texts of this claim, merged: Region, Kit, Flo, Nar, Shut, Nest, Design, Exact, Draw, In, Root, Vec, Wire. -/
import Derived.Deep.Slices
import Derived.Laws.Cover2
import Derived.Carry
import Derived.ProofKit
import Derived.Test.YtfkblhlkeglilaaKFnLines1
namespace Go.Proofs.Ytfkblhlkeglilaa
open Go.RowKit
/-- How an operation is taken: 0 quiet; 1 it makes something new; 2 it makes something new whatever is there; 3 it turns what the call owns. -/
abbrev Kd := Nat
section
variable {P : Program} {n : Nat} {w0 : World} {O : List Ent} {E : Env} {ops : Array Oper}
theorem YQ.weaken {E' : Env} {O' : List Ent} {o : Oper} {u : Value} (h : YQ P w0 O E o u) (hE : ∀ x ∈ o.op.operands, E'.opd x = E.opd x) (hO : ∀ w, Hp w0 O' w → Hp w0 O w) : YQ P w0 O' E' o u :=
  fun ρ w hρ hw => h ρ w (fun x hx u hu => hρ x hx u (by rw [hE x hx]; exact hu)) (hO w hw)
/-- A new variable: what it holds. -/
def aent (P : Program) (o : Oper) (b : Nat) : Ent :=
  match o.op with
  | .alloc e => match (P.info? e).bind (·.zero) with
    | some z => ⟨some ⟨b, 0, none⟩, z.cells.toList.map cn, (z.cells.toList.map cn).length, e⟩
    | none => ⟨none, [], 0, e⟩
  | _ => ⟨none, [], 0, 0⟩
/-- A new variable is made, whatever is there. -/
def AOk (P : Program) (n : Nat) (o : Oper) : Prop := o.guard = none ∧ (∃ e z, o.op = .alloc e ∧ (P.info? e).bind (·.zero) = some z) ∧ ∃ d, o.dst = some d ∧ d < n
def aptr (b : Nat) : Value := .pointer (some (adr (some ⟨b, 0, none⟩) 0))
/-- Is the guard met, in E? -/
inductive Guard (ops : Array Oper) (E : Env) (o : Oper) : Bool → Prop
  | none : o.guard = .none → Guard ops E o true
  | some {j t : Nat} {b b' : Bool} : o.guard = .some (j, b) → (ops[j]?).bind (·.dst) = .some t → E.get t = .some (.bool b') → Guard ops E o (b' == b)
  | undef {j t : Nat} {b : Bool} : o.guard = .some (j, b) → (ops[j]?).bind (·.dst) = .some t → E.get t = .some undef → Guard ops E o false
theorem cn_undef {v : Value} (h : cn v = undef) : v = undef := by
  cases v <;> simp [cn, cn1, cn0, undef] at h ⊢
  exact h
theorem yielded_undef {a : Act} {j t : Nat} (ha : Models n E a) (hj : (ops[j]?).bind (·.dst) = some t) (hb : E.get t = some undef) : yielded ops a.tmps j = none := by
  obtain ⟨v, hv, hu⟩ := ha.get t _ hb
  have := cn_undef hu
  subst this
  simp [yielded, hj, hv, undef]
theorem Guard.wanted {o : Oper} {g : Bool} (h : Guard ops E o g) {a : Act} (ha : Models n E a) : Region.wanted o (yielded ops a.tmps) = g := by
  cases h with
  | none h => simp [Region.wanted, h]
  | some h1 h2 h3 =>
    rename_i j t b b'
    simp only [Region.wanted, h1, yielded_of ha h2 h3]
    cases b <;> cases b' <;> rfl
  | undef h1 h2 h3 => simp [Region.wanted, h1, yielded_undef ha h2 h3]
def putE (E : Env) (d : Option Nat) (u : Value) : Env := match d with | some d => (d, u) :: E | none => E
/-- What an operation does: a value and what is owned then, for some x. -/
inductive Eff (P : Program) (w0 : World) (ops : Array Oper) : Kd → Oper → Env → List Ent → (X : Type) → (X → Value) → (X → List Ent) → Prop
  | skip {k : Kd} {o : Oper} {E : Env} {O : List Ent} : Guard ops E o false → Eff P w0 ops k o E O Unit (fun _ => undef) (fun _ => O)
  | quiet {o : Oper} {E : Env} {O : List Ent} {u : Value} : Guard ops E o true → YQ P w0 O E o u → Eff P w0 ops 0 o E O Unit (fun _ => u) (fun _ => O)
  | make {o : Oper} {E : Env} {O : List Ent} {X : Type} {u : X → Value} {N : X → List Ent} : Guard ops E o true → YN P w0 O E o u N → Eff P w0 ops 1 o E O X u (fun x => N x ++ O)
  | turn {o : Oper} {E : Env} {O : List Ent} {X : Type} {u : X → Value} {O' : X → List Ent} : Guard ops E o true → YC P w0 O E o u O' → Eff P w0 ops 3 o E O X u O'
def DOk (n : Nat) (o : Oper) : Prop := ∀ d, o.dst = some d → d < n
/-- One operation, and K behind it. -/
def Stp (P : Program) (n : Nat) (w0 : World) (ops : Array Oper) (k : Kd) (o : Oper) (E : Env) (O : List Ent) (K : Env → List Ent → Prop) : Prop :=
  if k = 2 then AOk P n o ∧ ∀ b, K (putE E o.dst (aptr b)) (aent P o b :: O)
  else ∃ (X : Type) (u : X → Value) (O' : X → List Ent), Eff P w0 ops k o E O X u O' ∧ DOk n o ∧ ∀ x, K (putE E o.dst (u x)) (O' x)
/-- The walk: the operations of π in this order. -/
def SW (P : Program) (n : Nat) (w0 : World) (ops : Array Oper) (K : Env → List Ent → Prop) : List (Nat × Kd) → Env → List Ent → Prop
  | [], E, O => K E O
  | (i, k) :: π, E, O => ∃ o, ops[i]? = some o ∧ Stp P n w0 ops k o E O (SW P n w0 ops K π)
/-- K does not look at the order of what is known. -/
def Lax (w0 : World) (K : Env → List Ent → Prop) : Prop :=
  ∀ E E' O O', (∀ t, E'.get t = E.get t) → (∀ F w, Hp w0 (F ++ O') w → Hp w0 (F ++ O) w) → K E O → K E' O'
theorem Guard.same {E' : Env} {o : Oper} {g : Bool} (h : Guard ops E o g) (hE : ∀ t, (∃ j b, o.guard = .some (j, b) ∧ (ops[j]?).bind (·.dst) = .some t) → E'.get t = E.get t) : Guard ops E' o g := by
  cases h with
  | none h => exact .none h
  | some h1 h2 h3 => exact .some h1 h2 (by rw [hE _ ⟨_, _, h1, h2⟩]; exact h3)
  | undef h1 h2 h3 => exact .undef h1 h2 (by rw [hE _ ⟨_, _, h1, h2⟩]; exact h3)
theorem opd_same {E' : Env} (h : ∀ t, E'.get t = E.get t) (x : Operand) : E'.opd x = E.opd x := by
  cases x <;> simp [Env.opd, h]
theorem YN.weaken {E' : Env} {O' : List Ent} {o : Oper} {X : Type} {u : X → Value} {N : X → List Ent} (h : YN P w0 O E o u N) (hE : ∀ x ∈ o.op.operands, E'.opd x = E.opd x) (hO : ∀ w, Hp w0 O' w → Hp w0 O w) : YN P w0 O' E' o u N :=
  fun ρ w hρ hw => h ρ w (fun x hx u hu => hρ x hx u (by rw [hE x hx]; exact hu)) (hO w hw)
theorem get_cons_congr {E E' : Env} (h : ∀ t, E'.get t = E.get t) (d : Nat) (u : Value) : ∀ t, Env.get ((d, u) :: E') t = Env.get ((d, u) :: E) t := by
  intro t; simp only [Env.get, h]
theorem Hp.perm {O' N : List Ent} (h : ∀ F w, Hp w0 (F ++ O') w → Hp w0 (F ++ O) w) : ∀ F w, Hp w0 (F ++ (N ++ O')) w → Hp w0 (F ++ (N ++ O)) w := by
  intro F w hw
  rw [← List.append_assoc] at hw ⊢
  exact h _ w hw
theorem put_congr {E E' : Env} (h : ∀ t, E'.get t = E.get t) (d : Option Nat) (u : Value) : ∀ t, (putE E' d u).get t = (putE E d u).get t := by
  cases d with
  | none => exact h
  | some d => exact get_cons_congr h d u
theorem hp_nil {O' : List Ent} (h : ∀ F w, Hp w0 (F ++ O') w → Hp w0 (F ++ O) w) : ∀ w, Hp w0 O' w → Hp w0 O w := fun w hw => by simpa using h [] w (by simpa using hw)
/-- The effect, seen from what says the same. -/
theorem Eff.lax {E' : Env} {O' : List Ent} {k : Kd} {o : Oper} {X : Type} {u : X → Value} {R : X → List Ent} (hE : ∀ t, E'.get t = E.get t) (hO : ∀ F w, Hp w0 (F ++ O') w → Hp w0 (F ++ O) w) (h : Eff P w0 ops k o E O X u R) :
    ∃ R', Eff P w0 ops k o E' O' X u R' ∧ ∀ x F w, Hp w0 (F ++ R' x) w → Hp w0 (F ++ R x) w := by
  have hop := opd_same hE
  cases h with
  | skip hg => exact ⟨_, .skip (hg.same fun t _ => hE t), fun _ => hO⟩
  | quiet hg h => exact ⟨_, .quiet (hg.same fun t _ => hE t) (h.weaken (fun x _ => hop x) (hp_nil hO)), fun _ => hO⟩
  | make hg h => exact ⟨_, .make (hg.same fun t _ => hE t) (h.weaken (fun x _ => hop x) (hp_nil hO)), fun x => Hp.perm hO⟩
  | turn hg h => exact ⟨_, .turn (hg.same fun t _ => hE t) (fun ρ w F hρ hw => h ρ w F (fun x hx u hu => hρ x hx u (by rw [hop x]; exact hu)) (hO F w hw)), fun _ _ _ h => h⟩
theorem Stp.lax {k : Kd} {o : Oper} {K : Env → List Ent → Prop} (hK : Lax w0 K) : Lax w0 (fun E O => Stp P n w0 ops k o E O K) := by
  intro E E' O O' hE hO h
  simp only [Stp] at h ⊢
  split at h
  · rename_i hk
    rw [if_pos hk]
    exact ⟨h.1, fun b => hK _ _ _ _ (put_congr hE _ _) (fun F w => by simpa using Hp.perm (N := [aent P o b]) hO F w) (h.2 b)⟩
  · rename_i hk
    rw [if_neg hk]
    obtain ⟨X, u, R, h1, h2, h3⟩ := h
    obtain ⟨R', h4, h5⟩ := h1.lax hE hO
    exact ⟨X, u, R', h4, h2, fun x => hK _ _ _ _ (put_congr hE _ _) (h5 x) (h3 x)⟩
theorem SW.lax {K : Env → List Ent → Prop} (hK : Lax w0 K) : ∀ π, Lax w0 (SW P n w0 ops K π)
  | [] => hK
  | (i, k) :: π => by
    intro E E' O O' hE hO ⟨o, ho, h⟩
    exact ⟨o, ho, Stp.lax (SW.lax hK π) _ _ _ _ hE hO h⟩
theorem operand_ne {o : Oper} {d : Nat} (h : (o.looksAt ops).contains d = false) : ∀ x ∈ o.op.operands, x ≠ .tmp d := by
  intro x hx he
  subst he
  have : d ∈ o.looksAt ops := by
    unfold Oper.looksAt
    refine List.mem_append.2 (.inl (List.mem_filterMap.2 ⟨.tmp d, by simpa using hx, rfl⟩))
  simp at h
  exact h this
theorem guard_ne {o : Oper} {d : Nat} (h : (o.looksAt ops).contains d = false) : ∀ t, (∃ j b, o.guard = .some (j, b) ∧ (ops[j]?).bind (·.dst) = .some t) → t ≠ d := by
  rintro t ⟨j, b, h1, h2⟩ rfl
  have : t ∈ o.looksAt ops := by
    unfold Oper.looksAt
    refine List.mem_append.2 (.inr ?_)
    rw [h1]
    simp [h2]
  simp at h
  exact h this
theorem get_other {t d : Nat} (h : t ≠ d) (u : Value) : Env.get ((d, u) :: E) t = E.get t := by
  simp only [Env.get]
  cases hb : Nat.beq d t with
  | true => exact absurd (Nat.eq_of_beq_eq_true hb).symm h
  | false => rfl
theorem opd_other {o : Oper} {d : Nat} (h : (o.looksAt ops).contains d = false) (u : Value) : ∀ x ∈ o.op.operands, Env.opd ((d, u) :: E) x = E.opd x := by
  intro x hx
  have := operand_ne h x hx
  cases x with
  | tmp t => exact get_other (fun e => this (by rw [e])) u
  | _ => rfl
theorem guard_other {o : Oper} {d : Nat} (h : (o.looksAt ops).contains d = false) {u : Value} {g : Bool} (hg : Guard ops ((d, u) :: E) o g) : Guard ops E o g :=
  hg.same fun t ht => (get_other (guard_ne h t ht) u).symm
theorem guard_other' {o : Oper} {d : Nat} (h : (o.looksAt ops).contains d = false) {u : Value} {g : Bool} (hg : Guard ops E o g) : Guard ops ((d, u) :: E) o g :=
  hg.same fun t ht => get_other (guard_ne h t ht) u
theorem get_swap {d d' : Nat} (h : d ≠ d') (u u' : Value) : ∀ t, Env.get ((d, u) :: (d', u') :: E) t = Env.get ((d', u') :: (d, u) :: E) t := by
  intro t
  simp only [Env.get]
  cases hb : Nat.beq d t <;> cases hb' : Nat.beq d' t <;> try rfl
  exact absurd ((Nat.eq_of_beq_eq_true hb).trans (Nat.eq_of_beq_eq_true hb').symm) h
/-- p is walked before q; may q be carried out before p? -/
def swapOk (ops : Array Oper) (kp kq : Kd) (p q : Oper) : Bool :=
  (match p.dst with | some d => !(q.looksAt ops).contains d && q.dst != some d | none => true) &&
  (match q.dst with | some d => !(p.looksAt ops).contains d | none => true) &&
  ((kp == 0 && (kq == 0 || kq == 1 || kq == 2)) || kq == 2)
theorem swap_hp {N M : List Ent} (F : List Ent) (w : World) (h : Hp w0 (F ++ (N ++ (M ++ O))) w) : Hp w0 (F ++ (M ++ (N ++ O))) w := by
  have hp : (F ++ (N ++ (M ++ O))).Perm (F ++ (M ++ (N ++ O))) := by
    refine List.Perm.append_left F ?_
    rw [← List.append_assoc, ← List.append_assoc]
    exact List.Perm.append_right O List.perm_append_comm
  exact ⟨h.below, fun e he => h.ents e (hp.mem_iff.2 he), h.apart.perm hp (fun h => apart_symm h)⟩
theorem sub_hp {N : List Ent} (w : World) (h : Hp w0 (N ++ O) w) : Hp w0 O w := h.sub (List.sublist_append_right N O)
theorem put_swap {p q : Oper} (h : ∀ d, p.dst = some d → q.dst ≠ some d) (u u' : Value) (E : Env) : ∀ t, (putE (putE E p.dst u) q.dst u').get t = (putE (putE E q.dst u') p.dst u).get t := by
  intro t
  cases hp : p.dst with
  | none => rfl
  | some d =>
    cases hq : q.dst with
    | none => rfl
    | some d' => exact get_swap (fun e => h d hp (by rw [hq, e])) u' u t
theorem opd_put {o : Oper} {d : Option Nat} (h : ∀ x, d = some x → (o.looksAt ops).contains x = false) (u : Value) : ∀ x ∈ o.op.operands, (putE E d u).opd x = E.opd x := by
  cases d with
  | none => intro x _; rfl
  | some d => exact opd_other (h d rfl) u
theorem guard_put {o : Oper} {d : Option Nat} (h : ∀ x, d = some x → (o.looksAt ops).contains x = false) {u : Value} {g : Bool} : Guard ops (putE E d u) o g ↔ Guard ops E o g := by
  cases d with
  | none => exact Iff.rfl
  | some d => exact ⟨guard_other (h d rfl), guard_other' (h d rfl)⟩
theorem Eff.put {k : Kd} {o : Oper} {d : Option Nat} {u : Value} {X : Type} {v : X → Value} {R : X → List Ent} (h : ∀ x, d = some x → (o.looksAt ops).contains x = false) :
    Eff P w0 ops k o (putE E d u) O X v R ↔ Eff P w0 ops k o E O X v R := by
  constructor
  · intro he
    cases he with
    | skip hg => exact .skip ((guard_put h).1 hg)
    | quiet hg hy => exact .quiet ((guard_put h).1 hg) (hy.weaken (fun x hx => (opd_put h u x hx).symm) fun _ h => h)
    | make hg hy => exact .make ((guard_put h).1 hg) (hy.weaken (fun x hx => (opd_put h u x hx).symm) fun _ h => h)
    | turn hg hy => exact .turn ((guard_put h).1 hg) (fun ρ w F hρ hw => hy ρ w F (fun x hx v hv => hρ x hx v (by rw [← opd_put h u x hx]; exact hv)) hw)
  · intro he
    cases he with
    | skip hg => exact .skip ((guard_put h).2 hg)
    | quiet hg hy => exact .quiet ((guard_put h).2 hg) (hy.weaken (fun x hx => opd_put h u x hx) fun _ h => h)
    | make hg hy => exact .make ((guard_put h).2 hg) (hy.weaken (fun x hx => opd_put h u x hx) fun _ h => h)
    | turn hg hy => exact .turn ((guard_put h).2 hg) (fun ρ w F hρ hw => hy ρ w F (fun x hx v hv => hρ x hx v (by rw [opd_put h u x hx]; exact hv)) hw)
/-- .. with one entry more -/
theorem Eff.beside {k : Kd} {o : Oper} {e : Ent} {X : Type} {v : X → Value} {R : X → List Ent} (he : Eff P w0 ops k o E O X v R) :
    ∃ R', Eff P w0 ops k o E (e :: O) X v R' ∧ ∀ x F w, Hp w0 (F ++ R' x) w → Hp w0 (F ++ (e :: R x)) w := by
  have hsub : ∀ w, Hp w0 (e :: O) w → Hp w0 O w := fun w h => h.sub (List.sublist_cons_self e O)
  cases he with
  | skip hg => exact ⟨_, .skip hg, fun _ _ _ h => h⟩
  | quiet hg hy => exact ⟨_, .quiet hg (hy.weaken (fun _ _ => rfl) hsub), fun _ _ _ h => h⟩
  | make hg hy =>
    exact ⟨_, .make hg (hy.weaken (fun _ _ => rfl) hsub), fun x F w h => swap_hp (N := _) (M := [e]) F w h⟩
  | turn hg hy =>
    refine ⟨fun x => e :: R x, .turn hg fun ρ w F hρ hw => ?_, fun _ _ _ h => h⟩
    have := hy ρ w (F ++ [e]) hρ (by simpa using hw)
    refine this.mono fun v w' ⟨x, h1, h2⟩ => ⟨x, h1, by simpa using h2⟩
theorem Stp.swap {kp kq : Kd} {p q : Oper} {K : Env → List Ent → Prop} (hK : Lax w0 K) (hs : swapOk ops kp kq p q = true) (hA : kq = 2 → AOk P n q)
    (h : Stp P n w0 ops kp p E O (fun E O => Stp P n w0 ops kq q E O K)) : Stp P n w0 ops kq q E O (fun E O => Stp P n w0 ops kp p E O K) := by
  simp only [swapOk, Bool.and_eq_true, Bool.or_eq_true, beq_iff_eq] at hs
  obtain ⟨⟨hs1, hs2⟩, hs3⟩ := hs
  have d1 : ∀ d, p.dst = some d → (q.looksAt ops).contains d = false := fun d hd => by rw [hd] at hs1; simpa using (Bool.and_eq_true_iff.1 hs1).1
  have d2 : ∀ d, p.dst = some d → q.dst ≠ some d := fun d hd => by rw [hd] at hs1; simpa using (Bool.and_eq_true_iff.1 hs1).2
  have d3 : ∀ d, q.dst = some d → (p.looksAt ops).contains d = false := fun d hd => by rw [hd] at hs2; simpa using hs2
  have hid : ∀ (O : List Ent) (F : List Ent) (w : World), Hp w0 (F ++ O) w → Hp w0 (F ++ O) w := fun _ _ _ h => h
  by_cases hq : kq = 2
  · -- the second makes a variable
    have hA' := hA hq
    subst hq
    simp only [Stp, if_true] at h ⊢
    refine ⟨hA', fun b => ?_⟩
    split at h
    · rename_i hp
      rw [if_pos hp]
      refine ⟨h.1, fun c => ?_⟩
      have h3 := (h.2 c).2 b
      refine hK _ _ _ _ (fun t => (put_swap d2 _ _ E t).symm) (fun F w hw => ?_) h3
      have := swap_hp (N := [aent P p c]) (M := [aent P q b]) (O := O) F w (by simpa using hw)
      simpa using this
    · rename_i hp
      rw [if_neg hp]
      obtain ⟨X, u, R, h1, h2, h3⟩ := h
      obtain ⟨R', h4, h5⟩ := h1.beside (e := aent P q b)
      refine ⟨X, u, R', (Eff.put d3).2 h4, h2, fun x => ?_⟩
      exact hK _ _ _ _ (fun t => (put_swap d2 _ _ E t).symm) (h5 x) ((h3 x).2 b)
  · have h0 : kp = 0 ∧ (kq = 0 ∨ kq = 1) := by
      rcases hs3 with ⟨h1, (h2 | h2) | h2⟩ | h2
      · exact ⟨h1, .inl h2⟩
      · exact ⟨h1, .inr h2⟩
      · exact absurd h2 hq
      · exact absurd h2 hq
    obtain ⟨rfl, hk⟩ := h0
    simp only [Stp, if_neg hq] at h ⊢
    rw [if_neg (by decide)] at h
    obtain ⟨X, u, R, h1, h2, h3⟩ := h
    -- the first is quiet, or does not come to its turn
    obtain ⟨u0, hu0, hp⟩ : ∃ u0, (∃ Y v S, Eff P w0 ops kq q (putE E p.dst u0) O Y v S ∧ DOk n q ∧ ∀ y, K (putE (putE E p.dst u0) q.dst (v y)) (S y)) ∧ ∀ E' O', (∀ x ∈ p.op.operands, E'.opd x = E.opd x) → (∀ g, Guard ops E p g → Guard ops E' p g) → (∀ w, Hp w0 O' w → Hp w0 O w) → Eff P w0 ops 0 p E' O' Unit (fun _ => u0) (fun _ => O') := by
      cases h1 with
      | skip hg => exact ⟨undef, h3 (), fun E' O' _ hg' _ => .skip (hg' _ hg)⟩
      | quiet hg hy => exact ⟨_, h3 (), fun E' O' hE hg' hO => .quiet (hg' _ hg) (hy.weaken hE hO)⟩
    obtain ⟨Y, v, S, g1, g2, g3⟩ := hu0
    have g1' := (Eff.put d1).1 g1
    refine ⟨Y, v, S, g1', g2, fun y => ?_⟩
    rw [if_neg (by decide)]
    have hsub : ∀ w, Hp w0 (S y) w → Hp w0 O w := by
      cases g1' with
      | skip _ => exact fun _ h => h
      | quiet _ _ => exact fun _ h => h
      | make _ _ => exact fun w h => sub_hp w h
      | turn _ _ => rcases hk with h | h <;> exact absurd h (by decide)
    exact ⟨Unit, fun _ => u0, fun _ => S y, hp _ _ (opd_put d3 _) (fun g hg => (guard_put d3).2 hg) hsub, h2, fun _ => hK _ _ _ _ (fun t => (put_swap d2 _ _ E t).symm) (hid _) (g3 y)⟩
/-- Of any two that are walked in this order the second waits for the first, directly, or they may change places. -/
def pairsOk (ops : Array Oper) : List (Nat × Kd) → Bool
  | [] => true
  | (i, k) :: π => (π.all fun (j, kj) => match ops[i]?, ops[j]? with
    | some p, some q => reach ops j i || swapOk ops k kj p q
    | _, _ => false) && pairsOk ops π
where
  /-- j waits for i, through others -/
  reach (ops : Array Oper) (j i : Nat) : Bool := go ops ops.size [j] i
  go (ops : Array Oper) : Nat → List Nat → Nat → Bool
    | 0, _, _ => false
    | f + 1, l, i =>
      let l' := l.flatMap fun j => match ops[j]? with | some o => (o.after.toList.filter (Region.binds .any)).map (·.on) | none => []
      l'.contains i || go ops f l' i
/-- every operation waits for earlier ones alone -/
def backOk (ops : Array Oper) : Bool := (List.range ops.size).all fun i => match ops[i]? with | some o => o.after.all fun e => !Region.binds .any e || e.on < i | none => false
theorem reach_listed {listed : Array Bool} (hcl : ∀ j o, ops[j]? = some o → listed.getD j false = true → ∀ e ∈ o.after, Region.binds .any e = true → listed.getD e.on false = true) :
    ∀ (f : Nat) (l : List Nat) (i : Nat), (∀ j ∈ l, ∀ o, ops[j]? = some o → ∀ e ∈ o.after, Region.binds .any e = true → listed.getD e.on false = true) → pairsOk.go ops f l i = true → listed.getD i false = true := by
  intro f
  induction f with
  | zero => intro l i _ h; simp [pairsOk.go] at h
  | succ f ih =>
    intro l i hl h
    simp only [pairsOk.go, Bool.or_eq_true] at h
    have hl' : ∀ j ∈ l.flatMap (fun j => match ops[j]? with | some o => (o.after.toList.filter (Region.binds .any)).map (·.on) | none => []), listed.getD j false = true := by
      intro j hj
      obtain ⟨m, hm, hjm⟩ := List.mem_flatMap.1 hj
      cases ho : ops[m]? with
      | none => rw [ho] at hjm; cases hjm
      | some o =>
        rw [ho] at hjm
        obtain ⟨e, he, rfl⟩ := List.mem_map.1 hjm
        obtain ⟨he1, he2⟩ := List.mem_filter.1 he
        exact hl m hm o ho e (Array.mem_toList_iff.1 he1) he2
    rcases h with h | h
    · exact hl' i (by simpa using h)
    · exact ih _ i (fun j hj o ho e he hb => hcl j o ho (hl' j hj) e he hb) h
theorem SW.front {K : Env → List Ent → Prop} (hK : Lax w0 K) {i : Nat} {k : Kd} {q : Oper} (hq : ops[i]? = some q) (hA : k = 2 → AOk P n q) : ∀ (A B : List (Nat × Kd)) (E : Env) (O : List Ent),
    (∀ j kj, (j, kj) ∈ A → ∃ p, ops[j]? = some p ∧ swapOk ops kj k p q = true) → SW P n w0 ops K (A ++ (i, k) :: B) E O → SW P n w0 ops K ((i, k) :: (A ++ B)) E O
  | [], _, _, _, _, h => h
  | (j, kj) :: A, B, E, O, hs, h => by
    obtain ⟨p, hp, h⟩ := h
    obtain ⟨p', hp', hsw⟩ := hs j kj List.mem_cons_self
    obtain rfl : p = p' := Option.some.inj (hp.symm.trans hp')
    have h2 : Stp P n w0 ops kj p E O (fun E O => Stp P n w0 ops k q E O (SW P n w0 ops K (A ++ B))) := by
      have ih := fun E O => SW.front hK hq hA A B E O (fun j kj hj => hs j kj (List.mem_cons_of_mem _ hj))
      have key : ∀ E O, SW P n w0 ops K (A ++ (i, k) :: B) E O → Stp P n w0 ops k q E O (SW P n w0 ops K (A ++ B)) := fun E O h => by
        obtain ⟨q', hq', h'⟩ := ih E O h
        obtain rfl : q = q' := Option.some.inj (hq.symm.trans hq')
        exact h'
      simp only [Stp] at h ⊢
      split at h
      · rename_i hk; rw [if_pos hk]; exact ⟨h.1, fun b => key _ _ (h.2 b)⟩
      · rename_i hk; rw [if_neg hk]
        obtain ⟨X, u, R, h1, h2, h3⟩ := h
        exact ⟨X, u, R, h1, h2, fun x => key _ _ (h3 x)⟩
    have h3 := Stp.swap (SW.lax hK (A ++ B)) hsw hA h2
    refine ⟨q, hq, ?_⟩
    simp only [Stp] at h3 ⊢
    split at h3
    · rename_i hk; rw [if_pos hk]; exact ⟨h3.1, fun b => ⟨p, hp, h3.2 b⟩⟩
    · rename_i hk; rw [if_neg hk]
      obtain ⟨X, u, R, h1, h2, h4⟩ := h3
      exact ⟨X, u, R, h1, h2, fun x => ⟨p, hp, h4 x⟩⟩
theorem models_put {a : Act} {o : Oper} {v u : Value} (ha : Models n E a) (hd : DOk n o) (hv : cn v = u) : Models n (putE E o.dst u) (a.put o.dst v) := by
  cases h : o.dst with
  | none => exact ha
  | some d => exact ha.put (hd d h) hv
theorem run_alloc_ent {o : Oper} (h : AOk P n o) (ρ : Operand → Value) (w : World) : ResOk P (fun v w' => ∃ b, cn v = aptr b ∧ Below w.heap.size w w' ∧ Ent.at w.heap.size w' (aent P o b)) ((execOp ρ o).run P w) := by
  obtain ⟨_, ⟨e, z, h1, h2⟩, _⟩ := h
  have hr : (execOp ρ o).run P w = .ok (.value (.pointer (some ⟨w.heap.size, 0, none⟩))) (w.alloc (.cells z.cells.toList.toArray e)) := by
    simp [execOp, h1, Instr.alloc, newVar, run_newRow, info_zero h2]
  rw [hr]
  refine ⟨w.heap.size, by simp [cn, cn1, cn0, adr, aptr], below_alloc _ _ _, ?_⟩
  simp only [aent, h1, h2]
  exact ent_new w _ _ e rfl
theorem Stp.wpOp {k : Kd} {o : Oper} {i : Nat} {Q : Exit → Act → World → Prop} {K : Env → List Ent → Prop} {R : Act → World → Prop} (ho : ops[i]? = some o) (h : Stp P n w0 ops k o E O K) (hR : ∀ E' O', K E' O' → VX n w0 O' E' R) {a : Act} {w : World} (ha : Models n E a) (hw : Hp w0 O w) : Go.wpOp P ops Q i R a w := by
  unfold Go.wpOp
  simp only [ho]
  simp only [Stp] at h
  split at h
  · obtain ⟨hA, h⟩ := h
    have hd : DOk n o := fun d hd => by obtain ⟨d', h1, h2⟩ := hA.2.2; rw [h1] at hd; cases hd; exact h2
    rw [if_pos (by simp [Region.wanted, hA.1])]
    refine .inl ?_
    unfold Oper.wp
    refine (run_alloc_ent hA a.eval w).upon fun v w' ⟨b, h1, h2, h3⟩ => ?_
    exact hR _ _ (h b) _ _ (models_put ha hd h1) (hw.new h2 h3)
  · obtain ⟨X, u, R', h1, hd, h3⟩ := h
    cases h1 with
    | skip hg =>
      rw [if_neg (by rw [hg.wanted ha]; decide)]
      exact hR _ _ (h3 ()) _ _ (models_put ha hd (by simp [undef, cn])) hw
    | quiet hg hy =>
      rw [if_pos (hg.wanted ha)]
      refine .inl ?_
      unfold Oper.wp
      refine (hy a.eval w (ha.ev _) hw).upon fun v w' ⟨h1, h2⟩ => ?_
      exact hR _ _ (h3 ()) _ _ (models_put ha hd h1) (hw.ext h2)
    | make hg hy =>
      rw [if_pos (hg.wanted ha)]
      refine .inl ?_
      unfold Oper.wp
      refine (hy a.eval w (ha.ev _) hw).upon fun v w' ⟨x, h1, h2, h4, h5⟩ => ?_
      exact hR _ _ (h3 x) _ _ (models_put ha hd h1) (hw.news h2 h4 h5)
    | turn hg hy =>
      rw [if_pos (hg.wanted ha)]
      refine .inl ?_
      unfold Oper.wp
      refine (hy a.eval w [] (ha.ev _) (by simpa using hw)).upon fun v w' ⟨x, h1, h2⟩ => ?_
      exact hR _ _ (h3 x) _ _ (models_put ha hd h1) (by simpa using h2)
theorem pairsOk_mid {i : Nat} {k : Kd} : ∀ (A B : List (Nat × Kd)), pairsOk ops (A ++ (i, k) :: B) = true →
    (∀ j kj, (j, kj) ∈ A → ∃ p q, ops[j]? = some p ∧ ops[i]? = some q ∧ (pairsOk.reach ops i j = true ∨ swapOk ops kj k p q = true)) ∧ pairsOk ops (A ++ B) = true
  | [], B, h => by
    simp only [List.nil_append, pairsOk, Bool.and_eq_true] at h
    exact ⟨fun _ _ h => by (cases h), h.2⟩
  | (j, kj) :: A, B, h => by
    simp only [List.cons_append, pairsOk, Bool.and_eq_true, List.all_eq_true] at h ⊢
    obtain ⟨h1, h2⟩ := h
    obtain ⟨g1, g2⟩ := pairsOk_mid A B h2
    refine ⟨fun j' kj' hj => ?_, fun x hx => h1 x ?_, g2⟩
    · rcases List.mem_cons.1 hj with hj | hj
      · cases hj
        have := h1 (i, k) (by simp)
        dsimp only at this
        cases hp : ops[j]? with
        | none => rw [hp] at this; simp at this
        | some p =>
          cases hq : ops[i]? with
          | none => rw [hp, hq] at this; simp at this
          | some q =>
            rw [hp, hq] at this
            exact ⟨p, q, rfl, rfl, by simpa using this⟩
      · exact g1 j' kj' hj
    · rcases List.mem_append.1 hx with hx | hx
      · exact List.mem_append.2 (.inl hx)
      · exact List.mem_append.2 (.inr (List.mem_cons_of_mem _ hx))
theorem getDb {listed : Array Bool} {i : Nat} (h : listed.getD i true = false) : listed.getD i false = false := by
  rcases Nat.lt_or_ge i listed.size with h' | h'
  · simp [h'] at h ⊢; exact h
  · simp [Array.getElem?_eq_none h'] at h
theorem getD_set {l : Array Bool} {i j : Nat} {d : Bool} (hi : i < l.size) : (l.setIfInBounds i true).getD j d = if i = j then true else l.getD j d := by
  by_cases h : i = j
  · subst h; simp [hi]
  · rw [if_neg h]
    simp only [Array.getD_eq_getD_getElem?, Array.getElem?_setIfInBounds_ne h]
theorem any_of_walk {Q : Exit → Act → World → Prop} {K : Env → List Ent → Prop} (hK : Lax w0 K) (hQ : ∀ E O, K E O → VX n w0 O E (Q .normal)) (hback : backOk ops = true) :
    ∀ (fuel : Nat) (π : List (Nat × Kd)) (listed : Array Bool) (E : Env) (O : List Ent) (a : Act) (w : World), π.length ≤ fuel → listed.size = ops.size → (∀ j, j < ops.size → (listed.getD j true = false ↔ ∃ k, (j, k) ∈ π)) → (π.map (·.1)).Nodup →
      (∀ j o, ops[j]? = some o → listed.getD j false = true → ∀ e ∈ o.after, Region.binds .any e = true → listed.getD e.on false = true) → pairsOk ops π = true → (∀ j o, (j, 2) ∈ π → ops[j]? = some o → AOk P n o) →
      SW P n w0 ops K π E O → Models n E a → Hp w0 O w → wpAny P .any ops Q fuel listed a w := by
  have hnone : ∀ (π : List (Nat × Kd)) (listed : Array Bool) (E : Env) (O : List Ent) (a : Act) (w : World), listed.size = ops.size → (∀ j, j < ops.size → (listed.getD j true = false ↔ ∃ k, (j, k) ∈ π)) → Region.ready .any ops listed = [] → SW P n w0 ops K π E O → (∀ j k, (j, k) ∈ π → j < ops.size) → Models n E a → Hp w0 O w → Q .normal a w := by
    intro π listed E O a w hsz hl hr hS hlt ha hw
    have hnil : π = [] := by
      apply Classical.byContradiction
      intro hne
      -- the least index that is not listed could come up
      have hex : ∃ j, j < ops.size ∧ listed.getD j true = false := by
        cases π with
        | nil => exact absurd rfl hne
        | cons x π => obtain ⟨j, k⟩ := x; exact ⟨j, hlt j k List.mem_cons_self, (hl j (hlt j k List.mem_cons_self)).2 ⟨k, List.mem_cons_self⟩⟩
      have hmin : ∀ m, (∃ j, j ≤ m ∧ j < ops.size ∧ listed.getD j true = false) → ∃ j, j < ops.size ∧ listed.getD j true = false ∧ ∀ i, i < j → listed.getD i true = true := by
        intro m
        induction m with
        | zero => rintro ⟨j, hj, h1, h2⟩; exact ⟨j, h1, h2, fun i hi => by omega⟩
        | succ m ih =>
          rintro ⟨j, hj, h1, h2⟩
          by_cases h : ∃ j, j ≤ m ∧ j < ops.size ∧ listed.getD j true = false
          · exact ih h
          · refine ⟨j, h1, h2, fun i hi => ?_⟩
            cases hi' : listed.getD i true with
            | true => rfl
            | false => exact absurd ⟨i, by omega, by omega, hi'⟩ h
      obtain ⟨j, hj⟩ := hex
      obtain ⟨j, h1, h2, h3⟩ := hmin j ⟨j, Nat.le_refl _, hj⟩
      have hmem : j ∈ Region.ready .any ops listed := by
        refine mem_ready.2 ⟨h2, ops[j], Array.getElem?_eq_getElem h1, fun e he hb => ?_⟩
        have hb' := List.all_eq_true.1 hback j (List.mem_range.2 h1)
        rw [Array.getElem?_eq_getElem h1] at hb'
        have hlt' := Array.all_eq_true'.1 hb' e he
        simp only [hb, Bool.not_true, Bool.false_or, decide_eq_true_eq] at hlt'
        have := h3 e.on hlt'
        have hs : e.on < listed.size := by omega
        simpa [hs] using this
      rw [hr] at hmem
      cases hmem
    subst hnil
    exact hQ E O hS a w ha hw
  intro fuel
  induction fuel with
  | zero =>
    intro π listed E O a w hf hsz hl _ _ _ _ hS ha hw
    have hnil : π = [] := List.eq_nil_of_length_eq_zero (by omega)
    subst hnil
    refine ⟨?_, hQ E O hS a w ha hw⟩
    apply List.eq_nil_iff_forall_not_mem.2
    intro i hi
    obtain ⟨h1, o, h2, _⟩ := mem_ready.1 hi
    obtain ⟨k, hk⟩ := (hl i (Array.getElem?_eq_some_iff.1 h2).1).1 h1
    cases hk
  | succ fuel ih =>
    intro π listed E O a w hf hsz hl hnd hcl hp hA hS ha hw
    have hltπ : ∀ (π : List (Nat × Kd)) (E : Env) (O : List Ent), pairsOk ops π = true → SW P n w0 ops K π E O → True := fun _ _ _ _ _ => trivial
    refine ⟨fun hr => ?_, fun i hi => ?_⟩
    · -- nothing may come up
      refine hnone π listed E O a w hsz hl hr hS (fun j k hj => ?_) ha hw
      -- an index of π is one of the region's
      have : ∀ (π : List (Nat × Kd)), pairsOk ops π = true → 2 ≤ π.length → ∀ j k, (j, k) ∈ π → j < ops.size := by
        intro π hp h2 j k hj
        obtain ⟨A, B, rfl⟩ := List.append_of_mem hj
        cases A with
        | nil =>
          cases B with
          | nil => simp at h2
          | cons y B =>
            simp only [List.nil_append, pairsOk, Bool.and_eq_true, List.all_eq_true] at hp
            have := hp.1 y List.mem_cons_self
            obtain ⟨y1, y2⟩ := y
            dsimp only at this
            cases hj' : ops[j]? with
            | none => rw [hj'] at this; simp at this
            | some o => exact (Array.getElem?_eq_some_iff.1 hj').1
        | cons x A =>
          obtain ⟨x1, x2⟩ := x
          obtain ⟨g, _⟩ := pairsOk_mid ((x1, x2) :: A) B hp
          obtain ⟨p, q, _, hq, _⟩ := g x1 x2 List.mem_cons_self
          exact (Array.getElem?_eq_some_iff.1 hq).1
      by_cases h2 : 2 ≤ π.length
      · exact this π hp h2 j k hj
      · cases π with
        | nil => cases hj
        | cons x π =>
          have : π = [] := List.eq_nil_of_length_eq_zero (by simp only [List.length_cons] at h2; omega)
          subst this
          simp only [List.mem_singleton] at hj
          subst hj
          obtain ⟨o, ho, _⟩ := hS
          exact (Array.getElem?_eq_some_iff.1 ho).1
    · obtain ⟨h1, o, h2, h3⟩ := mem_ready.1 hi
      have hlt := (Array.getElem?_eq_some_iff.1 h2).1
      obtain ⟨k, hk⟩ := (hl i hlt).1 h1
      obtain ⟨A, B, rfl⟩ := List.append_of_mem hk
      obtain ⟨g1, g2⟩ := pairsOk_mid A B hp
      have hnot : ∀ j kj, (j, kj) ∈ A → listed.getD j false = false := fun j kj hj => by
        obtain ⟨p, q, hp', _⟩ := g1 j kj hj
        have := (hl j (Array.getElem?_eq_some_iff.1 hp').1).2 ⟨kj, List.mem_append.2 (.inl hj)⟩
        exact getDb this
      have hsw : ∀ j kj, (j, kj) ∈ A → ∃ p, ops[j]? = some p ∧ swapOk ops kj k p o = true := fun j kj hj => by
        obtain ⟨p, q, hp', hq', h⟩ := g1 j kj hj
        obtain rfl : o = q := Option.some.inj (h2.symm.trans hq')
        rcases h with h | h
        · have := reach_listed hcl ops.size [i] j (fun j' hj' o' ho' e he hb => by
            simp only [List.mem_singleton] at hj'
            subst hj'
            obtain rfl : o = o' := Option.some.inj (h2.symm.trans ho')
            exact h3 e he hb) h
          rw [hnot j kj hj] at this
          cases this
        · exact ⟨p, hp', h⟩
      have hfront := SW.front hK h2 (fun hk2 => hA i o (by subst hk2; exact hk) h2) A B E O hsw hS
      obtain ⟨o', ho', hst⟩ := hfront
      obtain rfl : o = o' := Option.some.inj (h2.symm.trans ho')
      have hi' : i < listed.size := by omega
      refine Stp.wpOp (ops := ops) h2 hst (fun E' O' hS' a' w' ha' hw' => ?_) ha hw
      refine ih (A ++ B) _ E' O' a' w' (by simp only [List.length_append, List.length_cons] at hf ⊢; omega) (by simpa using hsz) (fun j hj => ?_) ?_ (fun j oj hoj hlj e he hb => ?_) g2 (fun j oj hj => hA j oj (by
        rcases List.mem_append.1 hj with hj | hj
        · exact List.mem_append.2 (.inl hj)
        · exact List.mem_append.2 (.inr (List.mem_cons_of_mem _ hj)))) hS' ha' hw'
      · rw [getD_set hi']
        have hndi : ∀ k', (i, k') ∉ A ++ B := by
          intro k' hk'
          simp only [List.map_append, List.map_cons] at hnd
          rw [List.nodup_append] at hnd
          obtain ⟨n1, n2, n3⟩ := hnd
          rcases List.mem_append.1 hk' with hk' | hk'
          · exact n3 i (List.mem_map_of_mem (f := (·.1)) hk') i List.mem_cons_self rfl
          · exact (List.nodup_cons.1 n2).1 (List.mem_map_of_mem (f := (·.1)) hk')
        by_cases hij : i = j
        · subst hij
          rw [if_pos rfl]
          exact ⟨fun h => by (cases h), fun ⟨k', hk'⟩ => absurd hk' (hndi k')⟩
        · rw [if_neg hij, hl j hj]
          constructor
          · rintro ⟨k', hk'⟩
            refine ⟨k', ?_⟩
            rcases List.mem_append.1 hk' with hk' | hk'
            · exact List.mem_append.2 (.inl hk')
            · rcases List.mem_cons.1 hk' with hk' | hk'
              · cases hk'; exact absurd rfl hij
              · exact List.mem_append.2 (.inr hk')
          · rintro ⟨k', hk'⟩
            refine ⟨k', ?_⟩
            rcases List.mem_append.1 hk' with hk' | hk'
            · exact List.mem_append.2 (.inl hk')
            · exact List.mem_append.2 (.inr (List.mem_cons_of_mem _ hk'))
      · simp only [List.map_append, List.map_cons] at hnd ⊢
        exact hnd.sublist (List.Sublist.append_left (List.sublist_cons_self _ _) _)
      · rw [getD_set hi'] at hlj ⊢
        split at hlj
        · rename_i hij
          subst hij
          obtain rfl : o = oj := Option.some.inj (h2.symm.trans hoj)
          rw [h3 e he hb]
          split <;> rfl
        · rw [hcl j oj hoj hlj e he hb]
          split <;> rfl
/-- The order in which the region is walked: each of its operations once. -/
def permOk (m : Nat) (π : List (Nat × Kd)) : Bool := (List.range m).all (fun i => (π.map (·.1)).contains i) && decide (π.length = m) && decide (π.map (·.1)).Nodup
theorem permOk_nodup {m : Nat} {π : List (Nat × Kd)} (h : permOk m π = true) : (π.map (·.1)).Nodup ∧ ∀ j, j < m → ∃ k, (j, k) ∈ π := by
  simp only [permOk, Bool.and_eq_true, List.all_eq_true, decide_eq_true_eq] at h
  have hmem : ∀ j, j < m → j ∈ π.map (·.1) := fun j hj => by simpa using h.1.1 j (List.mem_range.2 hj)
  refine ⟨h.2, fun j hj => ?_⟩
  obtain ⟨⟨j', k⟩, hk, rfl⟩ := List.mem_map.1 (hmem j hj)
  exact ⟨k, hk⟩
/-- **A region that draws its order, walked in the order π.** -/
theorem V.draw {id : Nat} {l : List Oper} {Q : Exit → Act → World → Prop} (π : List (Nat × Kd)) (hm : P.follows .mixedOrders = true) (hok : (permOk l.length π && pairsOk l.toArray π && backOk l.toArray) = true) (hA : ∀ j o, (j, 2) ∈ π → l[j]? = some o → AOk P n o)
    (h : SW P n w0 l.toArray (fun E O => VE n w0 O E Q .normal) π E O) : V P n w0 O E (.region id l.toArray true) Q := by
  intro a w ha hw
  simp only [Bool.and_eq_true] at hok
  obtain ⟨⟨h1, h2⟩, h3⟩ := hok
  obtain ⟨n1, n2⟩ := permOk_nodup h1
  refine wp_region_any hm ?_
  have hlen : π.length = l.toArray.size := by
    simp only [permOk, Bool.and_eq_true, decide_eq_true_eq] at h1
    simpa using h1.1.2
  refine any_of_walk (K := fun E O => VE n w0 O E Q .normal) (fun E E' O O' hE hO h a w ha hw => h a w (ha.mono fun t u ht => by rw [hE]; exact ht) (by simpa using hO [] w (by simpa using hw))) (fun _ _ h => h) h3 _ π _ E O a _ (by omega) (by simp) (fun j hj => ?_) n1 (fun j o _ hj => ?_) h2 (fun j o hj ho => hA j o hj (by simpa using ho)) h ha (hw.ext (below_drew _ _))
  · simp only [List.size_toArray] at hj
    exact ⟨fun _ => n2 j hj, fun _ => by simp [hj]⟩
  · rw [getD_replicate_false'] at hj
    cases hj
where
  getD_replicate_false' {m j : Nat} : (Array.replicate m false).getD j false = false := by
    rcases Nat.lt_or_ge j m with h | h
    · simp [h]
    · simp [h]
section
variable {o : Oper} {i d : Nat} {π : List (Nat × Kd)} {K : Env → List Ent → Prop}
theorem Wants.guard (h : Wants ops E o) : Guard ops E o true := by
  rcases h with h | ⟨j, b, t, h1, h2, h3⟩
  · exact .none h
  · have := Guard.some (b' := b) h1 h2 h3
    simpa using this
theorem dok (hd : o.dst = some d) (hdn : d < n) : DOk n o := fun d' h => by rw [hd] at h; cases h; exact hdn
theorem SW.q {u : Value} (ho : ops[i]? = some o) (hg : Wants ops E o) (hd : o.dst = some d) (hdn : d < n) (hy : YQ P w0 O E o u) (h : SW P n w0 ops K π ((d, u) :: E) O) : SW P n w0 ops K ((i, 0) :: π) E O :=
  ⟨o, ho, by rw [Stp, if_neg (by decide)]; exact ⟨_, _, _, .quiet hg.guard hy, dok hd hdn, fun _ => by rw [hd]; exact h⟩⟩
theorem SW.r {u : Value} (ho : ops[i]? = some o) (hg : Wants ops E o) (hd : o.dst = some d) (hdn : d < n) (hy : YR P E o u) (h : SW P n w0 ops K π ((d, u) :: E) O) : SW P n w0 ops K ((i, 0) :: π) E O := SW.q ho hg hd hdn hy.q h
theorem SW.new {X : Type} {u : X → Value} {N : X → List Ent} (ho : ops[i]? = some o) (hg : Wants ops E o) (hd : o.dst = some d) (hdn : d < n) (hy : YN P w0 O E o u N) (h : ∀ x, SW P n w0 ops K π ((d, u x) :: E) (N x ++ O)) : SW P n w0 ops K ((i, 1) :: π) E O :=
  ⟨o, ho, by rw [Stp, if_neg (by decide)]; exact ⟨_, _, _, .make hg.guard hy, dok hd hdn, fun x => by rw [hd]; exact h x⟩⟩
theorem SW.new1 {X : Type} {u : X → Value} {N : X → Ent} (ho : ops[i]? = some o) (hg : Wants ops E o) (hd : o.dst = some d) (hdn : d < n) (hy : YN P w0 O E o u (fun x => [N x])) (h : ∀ x, SW P n w0 ops K π ((d, u x) :: E) (N x :: O)) : SW P n w0 ops K ((i, 1) :: π) E O := SW.new ho hg hd hdn hy h
theorem SW.c {X : Type} {u : X → Value} {O' : X → List Ent} (ho : ops[i]? = some o) (hg : Wants ops E o) (hd : o.dst = some d) (hdn : d < n) (hy : YC P w0 O E o u O') (h : ∀ x, SW P n w0 ops K π ((d, u x) :: E) (O' x)) : SW P n w0 ops K ((i, 3) :: π) E O :=
  ⟨o, ho, by rw [Stp, if_neg (by decide)]; exact ⟨_, _, _, .turn hg.guard hy, dok hd hdn, fun x => by rw [hd]; exact h x⟩⟩
theorem SW.s {X : Type} {u : X → Value} {O' : X → List Ent} (ho : ops[i]? = some o) (hg : Wants ops E o) (hd : o.dst = none) (hy : YC P w0 O E o u O') (h : ∀ x, SW P n w0 ops K π E (O' x)) : SW P n w0 ops K ((i, 3) :: π) E O :=
  ⟨o, ho, by rw [Stp, if_neg (by decide)]; exact ⟨_, _, _, .turn hg.guard hy, (fun d h => by rw [hd] at h; cases h), fun x => by rw [hd]; exact h x⟩⟩
theorem VL.noU {rest : List Oper} {Q : Exit → Act → World → Prop} {j t : Nat} {b : Bool} (hg : o.guard = some (j, b)) (hj : (ops[j]?).bind (·.dst) = some t) (hb : E.get t = some undef) (hd : o.dst = some d) (hdn : d < n)
    (h : VL P n w0 O ((d, undef) :: E) ops Q rest) : VL P n w0 O E ops Q (o :: rest) := by
  intro a w ha hw
  refine wpList_step fun K hK => ?_
  rw [if_neg (by simp [Region.wanted, hg, yielded_undef ha hj hb])]
  exact hK _ _ (h _ _ (by rw [hd]; exact ha.put hdn (by simp [undef, cn])) hw)
theorem SW.done (h : K E O) : SW P n w0 ops K [] E O := h
end
end
end Go.Proofs.Ytfkblhlkeglilaa

namespace Go.Proofs.Ytfkblhlkeglilaa
open Go.RowKit
def fl (xs : List Nat) : List Value := xs.map (Value.float .f32)
theorem fl_length (xs : List Nat) : (fl xs).length = xs.length := by simp [fl]
theorem fl_get {xs : List Nat} {k : Nat} (h : k < xs.length) : (fl xs)[k]? = some (.float .f32 (xs.getD k 0)) := by
  simp [fl, h]
theorem fl_set (xs : List Nat) (k x : Nat) : (fl xs).set k (.float .f32 x) = fl (xs.set k x) := by simp [fl, List.map_set]
section
variable {P : Program} {n : Nat} {w0 : World} {O : List Ent} {E : Env} {Q : Exit → Act → World → Prop} {o : Oper}
/-- x[k], the index a number that counts -/
theorem yq_idx {t e : TypeId} {x y : Operand} {a : Option Addr} {m c k : Nat} {i : Int} {kk : IntKind} {us : List Value} (ho : o.op = .indexAddr t x y) (ht : P.underlying t = some (.slice e)) (hz : (P.info? e).map (·.size) = some 1)
    (hx : E.opd x = some (.slice a m c)) (hy : E.opd y = some (.int kk i)) (hs : Sees w0 O a us) (hi : i = (k : Int)) (hl : us.length = m) (h1 : k < m) : YQ P w0 O E o (.pointer (some (adr a k))) := by
  subst hi
  have := yq_indexAddr (k := kk) ho ht hz hx hy hs (by intro h; subst h; simp at hl; omega) (Int.natCast_nonneg k) (by omega)
  simpa using this
theorem yq_idxN {t e : TypeId} {x y : Operand} {a : Option Addr} {m c k z : Nat} {i : Int} {kk : IntKind} {us : List Value} (ho : o.op = .indexAddr t x y) (ht : P.underlying t = some (.slice e)) (hz : (P.info? e).map (·.size) = some z)
    (hx : E.opd x = some (.slice a m c)) (hy : E.opd y = some (.int kk i)) (hs : Sees w0 O a us) (hi : i = (k : Int)) (hl : us.length = m * z) (hz0 : 0 < z) (h1 : k < m) : YQ P w0 O E o (.pointer (some (adr a (k * z)))) := by
  subst hi
  have := yq_indexAddr (k := kk) ho ht hz hx hy hs (by
    intro h; subst h
    have : m * z = 0 := hl.symm
    rcases mul_zero_cases this with h | h <;> omega) (Int.natCast_nonneg k) (by omega)
  simpa using this
theorem yq_loadF {t : TypeId} {x : Operand} {a : Option Addr} {k : Nat} {xs : List Nat} (ho : o.op = .load t x) (ht : flatB P t = true) (hx : E.opd x = some (.pointer (some (adr a k)))) (hs : Sees w0 O a (fl xs)) (hk : k < xs.length) : YQ P w0 O E o (.float .f32 (xs.getD k 0)) :=
  yq_load ho ht hx hs (fl_get hk)
theorem V.condT {c : Operand} {x y : Code} (hc : E.opd c = some (.bool true)) (h : V P n w0 O E x Q) : V P n w0 O E (.cond c x y) Q := V.cond hc (fun _ => h) (fun h => by cases h)
theorem V.condF {c : Operand} {x y : Code} (hc : E.opd c = some (.bool false)) (h : V P n w0 O E y Q) : V P n w0 O E (.cond c x y) Q := V.cond hc (fun h => by cases h) (fun _ => h)
theorem VL.r0 {ops : Array Oper} {rest : List Oper} {u : Value} (hg : Wants ops E o) (hd : o.dst = none) (hy : YR P E o u) (h : VL P n w0 O E ops Q rest) : VL P n w0 O E ops Q (o :: rest) := by
  intro a w ha hw
  refine wpList_step fun K hK => ?_
  rw [if_pos (hg.wanted ha)]
  unfold Oper.wp
  refine (hy a.eval w (ha.ev _)).upon fun v w' hv => hK _ _ ?_
  exact h _ _ (by rw [hd]; exact ha) (hw.ext hv.2)
/-- A product of two numbers that are not negative. -/
theorem yr_mulN {t ty : TypeId} {x y : Operand} {p q : Int} (a b : Nat) (ho : o.op = .binOp .mul t x y ty) (hx : E.opd x = some (.int .i64 p)) (hy : E.opd y = some (.int .i64 q)) (hp : p = (a : Int)) (hq : q = (b : Int)) (hb : a * b ≤ 9223372036854775807) : YR P E o (.int .i64 ((a * b : Nat) : Int)) := by
  subst hp; subst hq
  have := yr_int (P := P) (r := (a : Int) * (b : Int)) ho hx hy (.inr (.inr ⟨rfl, IntWalk.i64_in _ (by rw [← Int.natCast_mul]; omega)⟩))
  rwa [← Int.natCast_mul] at this
def ExtF (P : Program) (f : FuncId) (e : Array Value → Sem Value) : Prop := ∃ fn, P.funcs[f]? = some fn ∧ (fn.name == "runtime.NumGoroutine") = false ∧ fn.body = none ∧ Extern.findNext fn = none ∧ Extern.find fn = some e
theorem yq_ext {args : Array Operand} {ts : Array TypeId} {f : FuncId} {us : List Value} {u : Value} {e : Array Value → Sem Value} (ho : o.op = .call ⟨.value (.func f), args, ts⟩) (hk : ExtF P f e) (hx : Opds E args.toList us)
    (h : ∀ (vs : Array Value) (w : World), vs.toList.map cn = us → ∃ v w', (e vs).run P w = .ok v w' ∧ cn v = u ∧ Below w.heap.size w w') : YQ P w0 O E o u := by
  intro ρ w hE _
  obtain ⟨fn, h1, h2, h3, h4, h5⟩ := hk
  have h2' : ¬ fn.name = "runtime.NumGoroutine" := by simpa using h2
  obtain ⟨v, w', g1, g2, g3⟩ := h (args.map ρ ++ #[]) w (args_map' ho hx hE)
  have hc : cn (ρ (.func f)) = .func (.func f) #[] #[] := hE.get (x := .func f) (by simp [ho, Op.operands, Call.operands]) rfl
  have hc' := cn_func hc
  have hr : (execOp ρ o).run P w = .ok (.value v) w' := by
    simp only [Array.append_empty] at g1
    simp [execOp, ho, resolve, hc', Deferred.ofValue, invoke, callFunc, program, Sem.run, h1, h2', h3, h4, h5, g1]
  rw [hr]
  exact ⟨g2, g3⟩
/-- to the nearest whole number -/
def fround (x : Nat) : Nat := match FloatKind.f64.decode x with | .nan _ _ => qn .f64 | d => FloatKind.f64.encode (d.integral .even)
def fsqrt (x : Nat) : Nat := (Ieee.double.sqrt x).getD (qn .f64)
theorem one_arg {vs : Array Value} {k : FloatKind} {x : Nat} (h : vs.toList.map cn = [.float k x]) : ∃ b, vs = #[.float k b] ∧ cb k b = x := by
  obtain ⟨l⟩ := vs
  cases l with
  | nil => simp at h
  | cons v l =>
    cases l with
    | nil =>
      simp only [List.map_cons, List.map_nil, List.cons.injEq, and_true] at h
      obtain ⟨b, rfl, hb⟩ := cn_float h
      exact ⟨b, rfl, hb⟩
    | cons _ _ => simp at h
theorem sqrt_eq (x : Nat) : Extern.MathSqrt.sqrt #[.float .f64 x] = (match Ieee.double.sqrt x with
    | some r => pure (.float .f64 r)
    | none => do pure (.float .f64 (← choose (.nanBits .f64 x x)))) := rfl
theorem ext_sqrt (vs : Array Value) (w : World) {x : Nat} (h : vs.toList.map cn = [.float .f64 x]) : ∃ v w', (Extern.MathSqrt.sqrt vs).run P w = .ok v w' ∧ cn v = .float .f64 (fsqrt x) ∧ Below w.heap.size w w' := by
  obtain ⟨b, rfl, rfl⟩ := one_arg h
  have hcb : Ieee.double.sqrt (cb .f64 b) = Ieee.double.sqrt b := by
    cases hn : fnan .f64 b
    · have := read_cb hn
      unfold Ieee.Format.sqrt
      rw [show Ieee.double.read (cb .f64 b) = Ieee.double.read b from this]
    · obtain ⟨s1, f1, h1⟩ := read_nan hn
      obtain ⟨s2, f2, h2⟩ := read_nan (k := .f64) (b := cb .f64 b) (by rw [fnan_cb, hn])
      have h1' : Ieee.double.read b = .nan s1 f1 := h1
      have h2' : Ieee.double.read (cb .f64 b) = .nan s2 f2 := h2
      unfold Ieee.Format.sqrt
      rw [h1', h2']; rfl
  unfold fsqrt
  rw [hcb]
  cases hs : Ieee.double.sqrt b with
  | some r =>
    refine ⟨.float .f64 r, w, by simp [sqrt_eq, hs], ?_, Below.refl _ _⟩
    have hnum : fnan .f64 r = false := by
      unfold Ieee.Format.sqrt at hs
      obtain ⟨d, hd, rfl⟩ := Option.map_eq_some_iff.1 hs
      exact write_num Ieee.double (root_num hd)
    have hlt : r < 2 ^ FloatKind.f64.format.width := Ieee.Format.sqrt_lt _ hs
    simp [cn, cn1, cn0, cb_of_num hnum hlt]
  | none =>
    refine ⟨_, { w with drawn := w.drawn + 1 }, by simp [sqrt_eq, hs, choose, Sem.run, Question.forced]; rfl, ?_, below_drew _ _⟩
    simp only [cn, cn1, cn0, Option.getD_none]
    rw [cb_of_nan (cut_nan .f64 b b _)]
inductive Cov (E : Env) : Env → Prop
  | nil : Cov E []
  | cons {t : Nat} {u : Value} {E' : Env} : E.get t = some u → Cov E E' → Cov E ((t, u) :: E')
theorem Cov.get {E E' : Env} (h : Cov E E') : ∀ t u, E'.get t = some u → E.get t = some u := by
  induction h with
  | nil => intro t u h; simp [Env.get] at h
  | cons h1 _ ih =>
    intro t u h
    simp only [Env.get] at h
    split at h
    · rename_i hb
      cases h
      obtain rfl := Nat.eq_of_beq_eq_true hb
      exact h1
    · exact ih t u h
theorem Cov.append {E A B : Env} (h : Cov E A) (k : Cov E B) : Cov E (A ++ B) := by
  induction h with
  | nil => exact k
  | cons h1 _ ih => exact .cons h1 ih
/-- What a round leads to: the head again, nearer to the end. -/
def RoundQ {G : Type} (n : Nat) (w0 : World) (Ec : Env) (I : G → Prop) (Og : G → List Ent) (Ev' : G → Env) (μ : G → Nat) (g : G) : Act → World → Prop :=
  fun a w => ∃ g', I g' ∧ Models n (Ev' g' ++ Ec) a ∧ Hp w0 (Og g') w ∧ μ g' < μ g
theorem V.loopc {G : Type} {body : Code} (Ec : Env) (I : G → Prop) (Og : G → List Ent) (Ev' : G → Env) (μ : G → Nat) (g0 : G)
    (hc : Cov E Ec) (hE : Cov E (Ev' g0)) (hO : ∀ w, Hp w0 O w → Hp w0 (Og g0) w) (h0 : I g0)
    (round : ∀ g, I g → V P n w0 (Og g) (Ev' g ++ Ec) body (Exit.then (RoundQ n w0 Ec I Og Ev' μ g) Q)) :
    V P n w0 O E (.loop body) Q := V.loop I Og Ev' Ec μ g0 (hE.append hc).get hO h0 round
/-- .. what is owned stays as it is -/
theorem V.loops {G : Type} {body : Code} (Ec : Env) (I : G → Prop) (Ev' : G → Env) (μ : G → Nat) (g0 : G)
    (hc : Cov E Ec) (hE : Cov E (Ev' g0)) (h0 : I g0)
    (round : ∀ g, I g → V P n w0 O (Ev' g ++ Ec) body (Exit.then (RoundQ n w0 Ec I (fun _ => O) Ev' μ g) Q)) :
    V P n w0 O E (.loop body) Q := V.loopc Ec I (fun _ => O) Ev' μ g0 hc hE (fun _ h => h) h0 round
theorem VE.round {G : Type} {Ec : Env} {I : G → Prop} {Og : G → List Ent} {Ev' : G → Env} {μ : G → Nat} {g : G} (g' : G)
    (hE : Cov E (Ev' g')) (hc : Cov E Ec) (hO : ∀ w, Hp w0 O w → Hp w0 (Og g') w) (hI : I g') (hμ : μ g' < μ g) :
    VE n w0 O E (Exit.then (RoundQ n w0 Ec I Og Ev' μ g) Q) .normal :=
  fun _ w ha hw => ⟨g', hI, ha.mono (hE.append hc).get, hO w hw, hμ⟩
end
theorem Hp.out1 {w0 w1 : World} {e : Ent} {O : List Ent} (h : Hp w0 (e :: O) w1) : Below w0.heap.size w0 w1 ∧ (∀ f ∈ [e], f.at w0.heap.size w1) ∧ [e].Pairwise Ent.apart :=
  ⟨h.below, fun f hf => h.ents f (by rw [List.mem_singleton] at hf; subst hf; exact List.mem_cons_self), List.pairwise_singleton _ _⟩
theorem Hp.outs {w0 w1 : World} {N O : List Ent} (h : Hp w0 O w1) (hs : N.Sublist O) : Below w0.heap.size w0 w1 ∧ (∀ f ∈ N, f.at w0.heap.size w1) ∧ N.Pairwise Ent.apart :=
  ⟨h.below, fun f hf => h.ents f (hs.subset hf), h.apart.sublist hs⟩
theorem Pick.one {O F : List Ent} {e : Ent} (h : Rem O [e] F) : Pick O [e] F := Pick.take h .nil
theorem Pick.two {O O1 F R : List Ent} {e : Ent} (h : Rem O [e] O1) (h2 : Rem O1 R F) : Pick O (e :: R) F := Pick.take h (by simpa using Pick.take h2 .nil)
theorem Pick.four {O O1 O2 O3 F R : List Ent} {e1 e2 e3 : Ent} (h1 : Rem O [e1] O1) (h2 : Rem O1 [e2] O2) (h3 : Rem O2 [e3] O3) (h4 : Rem O3 R F) : Pick O (e1 :: e2 :: e3 :: R) F := Pick.take h1 (Pick.take h2 (Pick.two h3 h4))
theorem Rem.all {S : List Ent} : Rem S S [] := by simpa using (Rem.hereS (S := S) (O := []))
/-- What a function that turns its caller's blocks hands back, in the caller's order. -/
theorem Hp.take {w0 w : World} {O M F F' : List Ent} (hw : Hp w0 O w) (h : Pick O M F') (hs : F.Sublist F') : Hp w0 (F ++ M) w := (hw.perm' h.perm).sub (hs.append (List.Sublist.refl M))
theorem bnot_t {b : Bool} (h : (!b) = true) : b = false := by simpa using h
theorem bnot_f {b : Bool} (h : (!b) = false) : b = true := by simpa using h
theorem ic_lss {a b : Int} (h : icmp .lss a b = true) : a < b := of_decide_eq_true h
theorem ic_lss' {a b : Int} (h : icmp .lss a b = false) : b ≤ a := by have := of_decide_eq_false h; omega
theorem ic_leq {a b : Int} (h : icmp .leq a b = true) : a ≤ b := of_decide_eq_true h
theorem ic_leq' {a b : Int} (h : icmp .leq a b = false) : b < a := by have := of_decide_eq_false h; omega
theorem ic_gtr {a b : Int} (h : icmp .gtr a b = true) : b < a := of_decide_eq_true h
theorem ic_gtr' {a b : Int} (h : icmp .gtr a b = false) : a ≤ b := by have := of_decide_eq_false h; omega
theorem ic_geq {a b : Int} (h : icmp .geq a b = true) : b ≤ a := of_decide_eq_true h
theorem ic_geq' {a b : Int} (h : icmp .geq a b = false) : a < b := by have := of_decide_eq_false h; omega
theorem ic_eql {a b : Int} (h : icmp .eql a b = true) : a = b := by simpa [icmp] using h
theorem ic_eql' {a b : Int} (h : icmp .eql a b = false) : a ≠ b := by simpa [icmp] using h
theorem ic_neq {a b : Int} (h : icmp .neq a b = true) : a ≠ b := by simpa [icmp] using h
theorem ic_neq' {a b : Int} (h : icmp .neq a b = false) : a = b := by simpa [icmp] using h
theorem wrap_in {a : Int} (h : -9223372036854775808 ≤ a ∧ a ≤ 9223372036854775807) : IntKind.i64.wrap a = a := IntWalk.i64_in a h
theorem mul_small {a b : Nat} (ha : a ≤ 2147483648) (hb : b ≤ 2147483648) : a * b ≤ 4611686018427387904 := Nat.mul_le_mul ha hb
end Go.Proofs.Ytfkblhlkeglilaa

namespace Go.Proofs.Ytfkblhlkeglilaa
open Go.RowKit
theorem pow_pos' (n : Nat) : 0 < 2 ^ n := Nat.pow_pos (by decide)
/-- how many units a rung stands for -/
def units (f : Ieee.Format) (r : Nat) : Nat := if r < f.binade then r else (f.binade + r % f.binade) * 2 ^ (r / f.binade - 1)
theorem units_bounds (f : Ieee.Format) {r : Nat} (h : f.binade ≤ r) : f.binade * 2 ^ (r / f.binade - 1) ≤ units f r ∧ units f r < f.binade * 2 ^ (r / f.binade) := by
  have hb : 0 < f.binade := pow_pos' _
  have hq : 1 ≤ r / f.binade := (Nat.le_div_iff_mul_le hb).2 (by omega)
  have hm := Nat.mod_lt r hb
  have hp := pow_pos' (r / f.binade - 1)
  unfold units
  rw [if_neg (by omega)]
  constructor
  · exact Nat.mul_le_mul_right _ (by omega)
  · have e : r / f.binade = (r / f.binade - 1) + 1 := by omega
    rw [e, Nat.pow_succ, Nat.add_sub_cancel, Nat.mul_comm (2 ^ (r / f.binade - 1)) 2, ← Nat.mul_assoc]
    exact Nat.mul_lt_mul_of_pos_right (by omega) hp
theorem units_inj (f : Ieee.Format) {r s : Nat} (h : units f r = units f s) : r = s := by
  have hb : 0 < f.binade := pow_pos' _
  have key : ∀ r s, r / f.binade < s / f.binade → units f r < units f s := by
    intro r s hlt
    have hs : f.binade ≤ s := by
      have := (Nat.le_div_iff_mul_le (x := 1) hb).1 (Nat.lt_of_le_of_lt (Nat.zero_le _) hlt)
      omega
    have h2 := (units_bounds f hs).1
    by_cases hr : r < f.binade
    · have : units f r = r := by unfold units; rw [if_pos hr]
      have hp := pow_pos' (s / f.binade - 1)
      have : f.binade ≤ f.binade * 2 ^ (s / f.binade - 1) := Nat.le_mul_of_pos_right _ hp
      omega
    · have h1 := (units_bounds f (Nat.le_of_not_lt hr)).2
      have : f.binade * 2 ^ (r / f.binade) ≤ f.binade * 2 ^ (s / f.binade - 1) := Nat.mul_le_mul_left _ (Nat.pow_le_pow_right (by decide) (by omega))
      omega
  rcases Nat.lt_trichotomy (r / f.binade) (s / f.binade) with hlt | heq | hgt
  · have := key r s hlt; omega
  · have h3 : r % f.binade = s % f.binade := by
      unfold units at h
      by_cases hr : r < f.binade
      · have hs : s < f.binade := by
          rw [Nat.div_eq_of_lt hr] at heq
          rcases Nat.lt_or_ge s f.binade with h' | h'
          · exact h'
          · have := (Nat.le_div_iff_mul_le (x := 1) (y := s) hb).2 (by omega); omega
        rw [if_pos hr, if_pos hs] at h
        rw [h]
      · have hs : ¬ s < f.binade := by
          intro hs
          rw [Nat.div_eq_of_lt hs] at heq
          have := (Nat.le_div_iff_mul_le (x := 1) (y := r) hb).2 (by omega); omega
        rw [if_neg hr, if_neg hs, heq] at h
        have := Nat.eq_of_mul_eq_mul_right (pow_pos' _) h
        omega
    have e1 := Nat.div_add_mod r f.binade
    have e2 := Nat.div_add_mod s f.binade
    rw [heq, h3] at e1
    omega
  · have := key s r hgt; omega
def sgn (f : Ieee.Format) (x : Nat) : Bool := x / f.signWeight % 2 == 1
def rng (f : Ieee.Format) (x : Nat) : Nat := x % f.signWeight
/-- A word that stands for a number: its mag and place, in units. -/
theorem read_number (f : Ieee.Format) {x : Nat} (h : rng f x < f.infRung) : ∃ m e, f.read x = .number (sgn f x) m (f.leastPlace + (e : Nat)) ∧ m * 2 ^ e = units f (rng f x) := by
  unfold Ieee.Format.read units rng at *
  simp only
  split
  · exact ⟨x % f.signWeight, 0, by simp [sgn], by simp⟩
  · exact ⟨f.binade + x % f.signWeight % f.binade, x % f.signWeight / f.binade - 1, rfl, rfl⟩
theorem binade_le (k : FloatKind) : k.format.binade ≤ k.format.infRung := by cases k <;> decide
theorem read_inf (k : FloatKind) {x : Nat} (h : rng k.format x = k.format.infRung) : k.format.read x = .infinity (sgn k.format x) := by
  have hb := binade_le k
  unfold Ieee.Format.read rng at *
  simp only
  rw [h, if_neg (by omega), if_neg (by omega), if_pos rfl]; rfl
theorem read_big (k : FloatKind) {x : Nat} (h : k.format.infRung < rng k.format x) : fnan k x = true := by
  have hb := binade_le k
  unfold fnan FloatKind.decode Ieee.Format.read rng at *
  simp only
  rw [if_neg (by omega), if_neg (by omega), if_neg (by omega)]; rfl
/-- a canonical word -/
def Can (k : FloatKind) (x : Nat) : Prop := cb k x = x ∧ x < 2 ^ k.format.width
theorem Can.nan {k : FloatKind} {x : Nat} (h : Can k x) (hn : fnan k x = true) : x = qn k := by rw [← cb_of_nan hn]; exact h.1.symm
theorem rng_le {k : FloatKind} {x : Nat} (h : fnan k x = false) : rng k.format x ≤ k.format.infRung := by
  rcases Nat.lt_or_ge k.format.infRung (rng k.format x) with h' | h'
  · rw [read_big k h'] at h; cases h
  · exact h'
theorem signed_val (s : Bool) (m a : Nat) : Ieee.signed s m a = if s then -((m * 2 ^ a : Nat) : Int) else ((m * 2 ^ a : Nat) : Int) := by
  unfold Ieee.signed; rw [Nat.shiftLeft_eq]
/-- How two numbers compare, in units. -/
def sval (f : Ieee.Format) (x : Nat) : Int := if sgn f x then -(units f (rng f x) : Int) else (units f (rng f x) : Int)
theorem order_number {k : FloatKind} {x y : Nat} (hx : rng k.format x < k.format.infRung) (hy : rng k.format y < k.format.infRung) : k.format.order x y = some (compare (sval k.format x) (sval k.format y)) := by
  obtain ⟨m, a, h1, h2⟩ := read_number k.format hx
  obtain ⟨m', a', h3, h4⟩ := read_number k.format hy
  unfold Ieee.Format.order
  rw [h1, h3]
  simp only [Ieee.Datum.order, signed_val, Option.some.injEq]
  unfold sval
  rw [← h2, ← h4]
  -- the place that both have
  generalize hc : min a a' = c
  have e1 : (k.format.leastPlace + (a : Int) - min (k.format.leastPlace + (a : Int)) (k.format.leastPlace + (a' : Int))).toNat = a - c := by omega
  have e2 : (k.format.leastPlace + (a' : Int) - min (k.format.leastPlace + (a : Int)) (k.format.leastPlace + (a' : Int))).toNat = a' - c := by omega
  rw [e1, e2]
  have e3 : m * 2 ^ a = m * 2 ^ (a - c) * 2 ^ c := by rw [Nat.mul_assoc, ← Nat.pow_add]; congr 2; omega
  have e4 : m' * 2 ^ a' = m' * 2 ^ (a' - c) * 2 ^ c := by rw [Nat.mul_assoc, ← Nat.pow_add]; congr 2; omega
  rw [e3, e4]
  have hp : (0 : Int) < ((2 ^ c : Nat) : Int) := by exact_mod_cast pow_pos' c
  generalize m * 2 ^ (a - c) = u
  generalize m' * 2 ^ (a' - c) = v
  have key : ∀ p q : Int, compare p q = compare (p * ((2 ^ c : Nat) : Int)) (q * ((2 ^ c : Nat) : Int)) := by
    intro p q
    generalize ((2 ^ c : Nat) : Int) = t at hp
    simp only [compare, compareOfLessAndEq]
    have l1 : p < q ↔ p * t < q * t := ⟨fun h => Int.mul_lt_mul_of_pos_right h hp, fun h => Int.lt_of_mul_lt_mul_right h (Int.le_of_lt hp)⟩
    have l2 : p = q ↔ p * t = q * t := ⟨fun h => by rw [h], fun h => Int.eq_of_mul_eq_mul_right (Int.ne_of_gt hp) h⟩
    by_cases c1 : p < q
    · rw [if_pos c1, if_pos (l1.1 c1)]
    · rw [if_neg c1, if_neg (fun h => c1 (l1.2 h))]
      by_cases c2 : p = q
      · rw [if_pos c2, if_pos (l2.1 c2)]
      · rw [if_neg c2, if_neg (fun h => c2 (l2.2 h))]
  have hs : ∀ (s : Bool) (u : Nat), (if s = true then -((u * 2 ^ c : Nat) : Int) else ((u * 2 ^ c : Nat) : Int)) = (if s = true then -(u : Int) else (u : Int)) * ((2 ^ c : Nat) : Int) := by
    intro s u
    cases s
    · simp only [Bool.false_eq_true, if_false, Int.natCast_mul]
    · simp only [if_true, Int.natCast_mul, Int.neg_mul]
  rw [hs, hs, ← key]
theorem compare_eq {a b : Int} : compare a b = .eq ↔ a = b := by
  simp only [compare, compareOfLessAndEq]
  by_cases h : a < b
  · rw [if_pos h]; constructor
    · intro h'; cases h'
    · intro h'; omega
  · rw [if_neg h]
    by_cases h2 : a = b
    · rw [if_pos h2]; exact ⟨fun _ => h2, fun _ => rfl⟩
    · rw [if_neg h2]; constructor
      · intro h'; cases h'
      · intro h'; exact absurd h' h2
theorem order_self {k : FloatKind} {x : Nat} (h : fnan k x = false) : k.format.order x x = some .eq := by
  rcases Nat.lt_or_ge (rng k.format x) k.format.infRung with h' | h'
  · rw [order_number h' h', Option.some.injEq, compare_eq]
  · have := rng_le h
    have hr := read_inf k (x := x) (by omega)
    unfold Ieee.Format.order
    rw [hr]
    cases sgn k.format x <;> rfl
theorem units_zero (f : Ieee.Format) {r : Nat} : units f r = 0 ↔ r = 0 := by
  constructor
  · intro h
    have h0 : units f 0 = 0 := by unfold units; rw [if_pos (show 0 < f.binade from pow_pos' _)]
    exact units_inj f (h.trans h0.symm)
  · intro h; subst h; unfold units; rw [if_pos (show 0 < f.binade from pow_pos' _)]
theorem fover_up (x : Nat) : fover .f32 .f64 x = false := by
  unfold fover
  rw [if_neg (by decide)]
  cases hr : FloatKind.f32.decode x with
  | nan s f => rfl
  | infinity s => rfl
  | number s m e =>
    -- what such a word reads as
    have hm : m < 2 ^ 24 ∧ -149 ≤ e ∧ e ≤ 104 := by
      have hsw : FloatKind.f32.format.signWeight = 2147483648 := by decide
      have hinf : FloatKind.f32.format.infRung = 2139095040 := by decide
      have hbin : FloatKind.f32.format.binade = 8388608 := by decide
      have hlp : FloatKind.f32.format.leastPlace = -149 := by decide
      unfold FloatKind.decode Ieee.Format.read at hr
      simp only [hsw, hinf, hbin, hlp] at hr
      split at hr
      · cases hr; omega
      · split at hr
        · cases hr
          have : x % 2147483648 / 8388608 ≤ 254 := by omega
          omega
        · split at hr <;> cases hr
    obtain ⟨h1, h2, h3⟩ := hm
    simp only
    have key : ∀ r, r < 9218868437227405312 → ((FloatKind.f64.decode (Ieee.double.word s r)).isInfinity) = false := by
      intro r hr
      have hsw : Ieee.double.signWeight = 9223372036854775808 := by decide
      have hinf : Ieee.double.infRung = 9218868437227405312 := by decide
      have e : Ieee.double.word s r % 9223372036854775808 = r := by
        unfold Ieee.Format.word; rw [hsw]; split <;> omega
      unfold FloatKind.decode FloatKind.format Ieee.Format.read
      simp only [hsw, hinf, e]
      by_cases h1 : r < Ieee.double.binade
      · rw [if_pos h1]; rfl
      · rw [if_neg h1, if_pos hr]; rfl
    show (FloatKind.f64.decode (Ieee.double.nearest s m e)).isInfinity = false
    unfold Ieee.Format.nearest
    have hfb : Ieee.double.fractionBits = 52 := rfl
    have hlp : Ieee.double.leastPlace = -1074 := by decide
    have hbin : Ieee.double.binade = 4503599627370496 := by decide
    have hinf : Ieee.double.infRung = 9218868437227405312 := by decide
    split
    · exact key 0 (by decide)
    · rename_i hm0
      have hl : m.log2 ≤ 23 := by
        have := (Nat.log2_lt hm0).2 h1
        omega
      simp only [hfb, hlp, hbin, hinf]
      have hlast : max (e + (m.log2 : Int) - ((52 : Nat) : Int)) (-1074) = e + (m.log2 : Int) - 52 := by omega
      rw [hlast]
      have e1 : (e - (e + (m.log2 : Int) - 52)).toNat = 52 - m.log2 := by omega
      have e2 : (e + (m.log2 : Int) - 52 - e).toNat = 0 := by omega
      rw [e1, e2]
      have hcut : ∀ n, Ieee.Toward.even.cut s n 0 = n := by
        intro n
        unfold Ieee.Toward.cut
        simp [Nat.mod_one]
      rw [hcut]
      refine key _ ?_
      have hk : m <<< (52 - m.log2) < 2 ^ 53 := by
        rw [Nat.shiftLeft_eq]
        have hlt : m < 2 ^ (m.log2 + 1) := Nat.lt_log2_self
        have : m * 2 ^ (52 - m.log2) < 2 ^ (m.log2 + 1) * 2 ^ (52 - m.log2) := Nat.mul_lt_mul_of_pos_right hlt (pow_pos' _)
        rw [← Nat.pow_add] at this
        have e3 : m.log2 + 1 + (52 - m.log2) = 53 := by omega
        rwa [e3] at this
      have e4 : (e + (m.log2 : Int) - 52 - -1074).toNat ≤ 1149 := by omega
      have e6 : (2 : Nat) ^ 53 = 9007199254740992 := by decide
      rw [e6] at hk
      exact room _ _ e4 hk
where
  room (a b : Nat) (ha : a ≤ 1149) (hb : b < 9007199254740992) : min (a * 4503599627370496 + b) 9218868437227405312 < 9218868437227405312 := by omega
theorem double_word (s : Bool) {r : Nat} (h : r < 9223372036854775808) : sgn Ieee.double (Ieee.double.word s r) = s ∧ rng Ieee.double (Ieee.double.word s r) = r := by
  have hsw : Ieee.double.signWeight = 9223372036854775808 := by decide
  unfold sgn rng Ieee.Format.word
  rw [hsw]
  cases s
  · simp only [Bool.false_eq_true, if_false]
    refine ⟨?_, Nat.mod_eq_of_lt h⟩
    rw [Nat.div_eq_of_lt h]; rfl
  · simp only [if_true]
    refine ⟨?_, ?_⟩
    · rw [Nat.add_div_left _ (by decide), Nat.div_eq_of_lt h]; rfl
    · rw [Nat.add_mod_left, Nat.mod_eq_of_lt h]
theorem min_room (a b : Nat) (ha : a ≤ 1149) (hb : b < 9007199254740992) : min (a * 4503599627370496 + b) 9218868437227405312 = a * 4503599627370496 + b := Nat.min_eq_left (by omega)
theorem sum_room (a b : Nat) (ha : a ≤ 1149) (hb : b < 9007199254740992) : a * 4503599627370496 + b < 9218868437227405312 := by omega
theorem ge_room (a b : Nat) (hb : 4503599627370496 ≤ b) : ¬ a * 4503599627370496 + b < 4503599627370496 := by omega
theorem div_room (B a b : Nat) (h1 : B ≤ b) (h2 : b < B + B) : (a * B + b) / B = a + 1 ∧ (a * B + b) % B = b - B := by
  have hB : 0 < B := by omega
  obtain ⟨t, rfl⟩ := Nat.exists_eq_add_of_le h1
  have e : a * B + (B + t) = t + (a + 1) * B := by rw [Nat.add_mul]; omega
  rw [e, Nat.add_mul_div_right _ _ hB, Nat.add_mul_mod_self_right, Nat.div_eq_of_lt (by omega), Nat.mod_eq_of_lt (by omega)]
  omega
/-- The exact word of a small number in the wider kind. -/
theorem nearest_exact (s : Bool) {m : Nat} {e : Int} (h1 : m < 2 ^ 24) (h2 : -149 ≤ e) (h3 : e ≤ 104) :
    ∃ r, Ieee.double.nearest s m e = Ieee.double.word s r ∧ r < 9218868437227405312 ∧ units Ieee.double r = m * 2 ^ (e + 1074).toNat := by
  unfold Ieee.Format.nearest
  have hfb : Ieee.double.fractionBits = 52 := rfl
  have hlp : Ieee.double.leastPlace = -1074 := by decide
  have hbin : Ieee.double.binade = 4503599627370496 := by decide
  have hinf : Ieee.double.infRung = 9218868437227405312 := by decide
  by_cases hm0 : m = 0
  · rw [if_pos hm0]
    refine ⟨0, rfl, by decide, ?_⟩
    subst hm0
    rw [Nat.zero_mul]
    exact (units_zero _).2 rfl
  · rw [if_neg hm0]
    have hl : m.log2 ≤ 23 := by
      have := (Nat.log2_lt hm0).2 h1
      omega
    have hlow : 2 ^ m.log2 ≤ m := Nat.log2_self_le hm0
    have hup : m < 2 ^ (m.log2 + 1) := Nat.lt_log2_self
    simp only [hfb, hlp, hbin, hinf]
    generalize m.log2 = l at *
    have hlast : max (e + (l : Int) - ((52 : Nat) : Int)) (-1074) = e + (l : Int) - 52 := by omega
    rw [hlast]
    have e1 : (e - (e + (l : Int) - 52)).toNat = 52 - l := by omega
    have e2 : (e + (l : Int) - 52 - e).toNat = 0 := by omega
    rw [e1, e2]
    have hcut : ∀ n, Ieee.Toward.even.cut s n 0 = n := by
      intro n
      unfold Ieee.Toward.cut
      simp [Nat.mod_one]
    rw [hcut, Nat.shiftLeft_eq]
    have hk2 : m * 2 ^ (52 - l) < 9007199254740992 := by
      have : m * 2 ^ (52 - l) < 2 ^ (l + 1) * 2 ^ (52 - l) := Nat.mul_lt_mul_of_pos_right hup (pow_pos' _)
      rw [← Nat.pow_add, show l + 1 + (52 - l) = 53 by omega] at this
      exact this
    have hk1 : 4503599627370496 ≤ m * 2 ^ (52 - l) := by
      have : 2 ^ l * 2 ^ (52 - l) ≤ m * 2 ^ (52 - l) := Nat.mul_le_mul_right _ hlow
      rw [← Nat.pow_add, show l + (52 - l) = 52 by omega] at this
      exact this
    have e4 : (e + (l : Int) - 52 - -1074).toNat ≤ 1149 := by omega
    have e6 : (e + 1074).toNat = (52 - l) + (e + (l : Int) - 52 - -1074).toNat := by omega
    rw [e6, Nat.pow_add, ← Nat.mul_assoc]
    generalize (e + (l : Int) - 52 - -1074).toNat = a at *
    generalize m * 2 ^ (52 - l) = b at *
    rw [min_room a b e4 hk2]
    refine ⟨_, rfl, sum_room a b e4 hk2, ?_⟩
    obtain ⟨q1, q2⟩ := div_room 4503599627370496 a b hk1 hk2
    unfold units
    rw [hbin, q1, q2, Nat.add_sub_cancel, Nat.add_sub_cancel' hk1, if_neg (ge_room a b hk1)]
theorem read32 {x : Nat} {s : Bool} {m : Nat} {e : Int} (hr : FloatKind.f32.decode x = .number s m e) : m < 2 ^ 24 ∧ -149 ≤ e ∧ e ≤ 104 := by
  have hsw : FloatKind.f32.format.signWeight = 2147483648 := by decide
  have hinf : FloatKind.f32.format.infRung = 2139095040 := by decide
  have hbin : FloatKind.f32.format.binade = 8388608 := by decide
  have hlp : FloatKind.f32.format.leastPlace = -149 := by decide
  unfold FloatKind.decode Ieee.Format.read at hr
  simp only [hsw, hinf, hbin, hlp] at hr
  split at hr
  · cases hr; omega
  · split at hr
    · cases hr
      have : x % 2147483648 / 8388608 ≤ 254 := by omega
      omega
    · split at hr <;> cases hr
/-- the number with those bits, in the wider kind -/
@[reducible] def up (x : Nat) : Nat := fconv .f32 .f64 x
def pow2 (n : Nat) : Nat := 2 ^ n
theorem pow2_add (a n : Nat) : 2 ^ (a + n) = 2 ^ a * pow2 n := Nat.pow_add 2 a n
def upK : Nat := pow2 925
theorem up_number {x : Nat} (h : rng Ieee.single x < Ieee.single.infRung) : sgn Ieee.double (up x) = sgn Ieee.single x ∧ rng Ieee.double (up x) < Ieee.double.infRung ∧ units Ieee.double (rng Ieee.double (up x)) = units Ieee.single (rng Ieee.single x) * upK := by
  obtain ⟨m, a, h1, h2⟩ := read_number Ieee.single h
  have hlp : Ieee.single.leastPlace = -149 := by decide
  have hd : FloatKind.f32.decode x = .number (sgn Ieee.single x) m (-149 + (a : Int)) := by rw [← hlp]; exact h1
  obtain ⟨g1, g2, g3⟩ := read32 hd
  obtain ⟨r, r1, r2, r3⟩ := nearest_exact (sgn Ieee.single x) g1 g2 g3
  have hup : up x = Ieee.double.word (sgn Ieee.single x) r := by
    unfold up fconv
    rw [if_neg (by decide), hd]
    exact r1
  have hlt : r < 9223372036854775808 := by omega
  obtain ⟨w1, w2⟩ := double_word (sgn Ieee.single x) hlt
  have hinf : Ieee.double.infRung = 9218868437227405312 := by decide
  rw [hup, w1, w2, hinf]
  refine ⟨rfl, r2, ?_⟩
  rw [r3, ← h2, Nat.mul_assoc]
  have e1 : (-149 + (a : Int) + 1074).toNat = a + 925 := by omega
  rw [e1, pow2_add, upK]
theorem up_nan {x : Nat} (h : fnan .f32 x = true) : up x = qn .f64 := by
  obtain ⟨s, f, hr⟩ := read_nan h
  unfold up fconv FloatKind.decode
  rw [if_neg (by decide), hr]
theorem can_fop (op : BinOp) (k : FloatKind) (x y : Nat) : Can k (fop op k x y) := ⟨cb_fop op k x y, fop_lt op k x y⟩
/-- n numbers from k on, as 32-bit words -/
def marks (k : Int) (n : Nat) : List Nat := (List.range n).map fun (i : Nat) => FloatKind.f32.nearest (k + (i : Int))
def fin (x : Nat) : Bool := fcmp .eql .f32 (fop .sub .f32 x x) 0
def above (x : Nat) : Bool := fin x && fcmp .gtr .f32 x 0
def least (x : Nat) : Bool := fin x && fcmp .geq .f32 x 0
end Go.Proofs.Ytfkblhlkeglilaa

namespace Go.Proofs.Ytfkblhlkeglilaa
open Go.RowKit
theorem shl_eq (a b : Nat) : a <<< b = a * 2 ^ b := Nat.shiftLeft_eq a b
theorem log2_mul_pow {m : Nat} (h : m ≠ 0) (k : Nat) : (m * 2 ^ k).log2 = m.log2 + k := by
  have h1 := Nat.log2_self_le h
  have h2 : m < 2 ^ (m.log2 + 1) := Nat.lt_log2_self
  have hne : m * 2 ^ k ≠ 0 := Nat.mul_ne_zero h (Nat.ne_of_gt (pow_pos' k))
  apply Nat.le_antisymm
  · have : m * 2 ^ k < 2 ^ (m.log2 + k + 1) := by
      rw [show m.log2 + k + 1 = (m.log2 + 1) + k by omega, Nat.pow_add]
      exact Nat.mul_lt_mul_of_pos_right h2 (pow_pos' k)
    have := (Nat.log2_lt hne).2 this
    omega
  · rw [Nat.le_log2 hne, Nat.pow_add]
    exact Nat.mul_le_mul_right _ h1
/-- What is cut is at most one more than the quotient. -/
theorem cut_le (s : Bool) (n drop : Nat) : Ieee.Toward.even.cut s n drop ≤ n / 2 ^ min drop (n.log2 + 2) + 1 := by
  unfold Ieee.Toward.cut
  simp only [shl_eq, Nat.one_mul]
  generalize n / 2 ^ min drop (n.log2 + 2) = q
  have : ∀ b : Bool, q + b.toNat ≤ q + 1 := fun b => by cases b <;> simp
  exact this _
theorem cut_zero (s : Bool) (n : Nat) : Ieee.Toward.even.cut s n 0 = n := by
  unfold Ieee.Toward.cut
  simp [Nat.mod_one]
theorem cut_exact (s : Bool) (a d : Nat) (ha : a ≠ 0) : Ieee.Toward.even.cut s (a * 2 ^ d) d = a := by
  unfold Ieee.Toward.cut
  have hl := log2_mul_pow ha d
  have hmin : min d ((a * 2 ^ d).log2 + 2) = d := by rw [hl]; omega
  simp only [shl_eq, Nat.one_mul, hmin]
  have h1 : a * 2 ^ d / 2 ^ d = a := Nat.mul_div_cancel _ (pow_pos' d)
  have h2 : a * 2 ^ d % 2 ^ d = 0 := Nat.mul_mod_left _ _
  rw [h1, h2]
  have hp := pow_pos' d
  have : (decide (2 ^ d < 2 * 0) || 2 ^ d == 2 * 0 && a % 2 == 1) = false := by
    have : (2 ^ d == 2 * 0) = false := by rw [beq_eq_false_iff_ne]; omega
    rw [this]; simp
  rw [this]; rfl
/-- the kept digits of a number are at most 2 ^ (fraction bits + 1) -/
theorem kept_le (s : Bool) {m f : Nat} {place last : Int} (h : place + m.log2 - f ≤ last) : Ieee.Toward.even.cut s (m <<< (place - last).toNat) (last - place).toNat ≤ 2 ^ (f + 1) := by
  have hup : m < 2 ^ (m.log2 + 1) := Nat.lt_log2_self
  rcases Int.le_total last place with hle | hle
  · have e1 : (last - place).toNat = 0 := by omega
    rw [e1, cut_zero, shl_eq]
    have : m * 2 ^ (place - last).toNat < 2 ^ (m.log2 + 1) * 2 ^ (place - last).toNat := Nat.mul_lt_mul_of_pos_right hup (pow_pos' _)
    rw [← Nat.pow_add] at this
    have h3 : 2 ^ (m.log2 + 1 + (place - last).toNat) ≤ 2 ^ (f + 1) := Nat.pow_le_pow_right (by decide) (by omega)
    omega
  · have e1 : (place - last).toNat = 0 := by omega
    rw [e1, shl_eq, Nat.pow_zero, Nat.mul_one]
    refine Nat.le_trans (cut_le s m _) ?_
    generalize hd : (last - place).toNat = d
    have hfd : m.log2 + 1 ≤ f + 1 + d := by omega
    -- the quotient is below 2 ^ (f + 1)
    have : m / 2 ^ min d (m.log2 + 2) < 2 ^ (f + 1) := by
      rw [Nat.div_lt_iff_lt_mul (pow_pos' _), ← Nat.pow_add]
      exact Nat.lt_of_lt_of_le hup (Nat.pow_le_pow_right (by decide) (by omega))
    omega
/-- The rung of a nearest word. -/
theorem nearest_rung (f : Ieee.Format) (s : Bool) {m : Nat} {place : Int} {t : Nat} (h : place + m.log2 ≤ f.leastPlace + f.fractionBits + t) :
    ∃ r, f.nearest s m place = f.word s r ∧ r ≤ (t + 2) * f.binade := by
  unfold Ieee.Format.nearest
  by_cases hm : m = 0
  · rw [if_pos hm]; exact ⟨0, rfl, Nat.zero_le _⟩
  · rw [if_neg hm]
    refine ⟨_, rfl, Nat.le_trans (Nat.min_le_left _ _) ?_⟩
    have hk := kept_le s (m := m) (f := f.fractionBits) (place := place) (last := max (place + (m.log2 : Int) - (f.fractionBits : Int)) f.leastPlace) (Int.le_max_left _ _)
    have hb : 2 ^ (f.fractionBits + 1) = 2 * f.binade := by rw [Nat.pow_succ, Nat.mul_comm]; rfl
    rw [hb] at hk
    have ht : (max (place + (m.log2 : Int) - (f.fractionBits : Int)) f.leastPlace - f.leastPlace).toNat ≤ t := by omega
    have := Nat.mul_le_mul_right f.binade ht
    rw [Nat.add_mul]
    exact Nat.add_le_add this hk
theorem single_word_fin (s : Bool) {r : Nat} (h : r < 2139095040) : (FloatKind.f32.decode (Ieee.single.word s r)).isInfinity = false := by
  have hsw : Ieee.single.signWeight = 2147483648 := by decide
  have hinf : Ieee.single.infRung = 2139095040 := by decide
  have e : Ieee.single.word s r % 2147483648 = r := by
    unfold Ieee.Format.word; rw [hsw]; split <;> omega
  unfold FloatKind.decode FloatKind.format Ieee.Format.read
  simp only [hsw, hinf, e]
  by_cases h1 : r < Ieee.single.binade
  · rw [if_pos h1]; rfl
  · rw [if_neg h1, if_pos h]; rfl
/-- A number below 2 ^ 127 is narrowed to a number. -/
theorem narrow_small (s : Bool) {m : Nat} {e : Int} (h : e + m.log2 ≤ 126) : (FloatKind.f32.decode (FloatKind.f32.encode (.number s m e))).isInfinity = false := by
  have hlp : Ieee.single.leastPlace = -149 := by decide
  have hfb : Ieee.single.fractionBits = 23 := rfl
  have hb : Ieee.single.binade = 8388608 := by decide
  obtain ⟨r, h1, h2⟩ := nearest_rung Ieee.single s (m := m) (place := e) (t := 252) (by rw [hlp, hfb]; omega)
  show (FloatKind.f32.decode (Ieee.single.nearest s m e)).isInfinity = false
  rw [h1]
  exact single_word_fin s (by rw [hb] at h2; omega)
theorem decode_double_bound {x : Nat} {s : Bool} {m : Nat} {e : Int} (h : FloatKind.f64.decode x = .number s m e) : m < 2 ^ 53 ∧ -1074 ≤ e ∧ (e = -1074 ∨ 2 ^ 52 ≤ m) ∧ e ≤ 971 := by
  have hsw : FloatKind.f64.format.signWeight = 9223372036854775808 := by decide
  have hinf : FloatKind.f64.format.infRung = 9218868437227405312 := by decide
  have hbin : FloatKind.f64.format.binade = 4503599627370496 := by decide
  have hlp : FloatKind.f64.format.leastPlace = -1074 := by decide
  unfold FloatKind.decode Ieee.Format.read at h
  simp only [hsw, hinf, hbin, hlp] at h
  split at h
  · cases h; omega
  · split at h
    · cases h
      have : x % 9223372036854775808 / 4503599627370496 ≤ 2046 := by omega
      have : 1 ≤ x % 9223372036854775808 / 4503599627370496 := by omega
      omega
    · split at h <;> cases h
/-- a double word's number is below 2 ^ (t + 1) if its rung is below .. -/
theorem decode_word_double (s : Bool) {r : Nat} (hr : r < 9218868437227405312) : ∃ m e, FloatKind.f64.decode (Ieee.double.word s r) = .number s m e ∧ e + m.log2 ≤ -1074 + 52 + (r / 4503599627370496 : Nat) := by
  have hsw : Ieee.double.signWeight = 9223372036854775808 := by decide
  have hinf : Ieee.double.infRung = 9218868437227405312 := by decide
  have hbin : Ieee.double.binade = 4503599627370496 := by decide
  have hlp : Ieee.double.leastPlace = -1074 := by decide
  have hw := double_word s (r := r) (by omega)
  have hm : Ieee.double.word s r % 9223372036854775808 = r := by have := hw.2; unfold rng at this; rwa [hsw] at this
  have hs : (Ieee.double.word s r / 9223372036854775808 % 2 == 1) = s := by have := hw.1; unfold sgn at this; rwa [hsw] at this
  unfold FloatKind.decode FloatKind.format Ieee.Format.read
  simp only [hsw, hinf, hbin, hlp, hm, hs]
  by_cases h1 : r < 4503599627370496
  · rw [if_pos h1]
    refine ⟨r, -1074, rfl, ?_⟩
    have hl : r.log2 ≤ 52 := by
      by_cases h0 : r = 0
      · subst h0; decide
      · have := (Nat.log2_lt h0 (k := 52)).2 h1
        omega
    omega
  · rw [if_neg h1, if_pos hr]
    refine ⟨_, _, rfl, ?_⟩
    have hl : (4503599627370496 + r % 4503599627370496).log2 ≤ 52 := by
      have h2 : 4503599627370496 + r % 4503599627370496 < 2 ^ 53 := by
        have : (2 : Nat) ^ 53 = 9007199254740992 := by decide
        omega
      have := (Nat.log2_lt (by omega)).2 h2
      omega
    have : 1 ≤ r / 4503599627370496 := by omega
    omega
theorem fover_small {x : Nat} {s : Bool} {m : Nat} {e : Int} (hx : FloatKind.f64.decode x = .number s m e) (h : e + m.log2 ≤ 126) : fover .f64 .f32 x = false := by
  unfold fover
  rw [if_neg (by decide), hx]
  exact narrow_small s h
theorem encode_small (s : Bool) {m : Nat} {e : Int} {t : Nat} (h : e + m.log2 ≤ -1074 + 52 + (t : Int)) (ht : t ≤ 2000) : ∃ m' e', FloatKind.f64.decode (FloatKind.f64.encode (.number s m e)) = .number s m' e' ∧ e' + m'.log2 ≤ -1074 + 52 + ((t + 2 : Nat) : Int) := by
  have hlp : Ieee.double.leastPlace = -1074 := by decide
  have hfb : Ieee.double.fractionBits = 52 := rfl
  have hbin : Ieee.double.binade = 4503599627370496 := by decide
  obtain ⟨r, h1, h2⟩ := nearest_rung Ieee.double s (m := m) (place := e) (t := t) (by rw [hlp, hfb]; omega)
  rw [hbin] at h2
  show ∃ m' e', FloatKind.f64.decode (Ieee.double.nearest s m e) = .number s m' e' ∧ _
  rw [h1]
  obtain ⟨m', e', g1, g2⟩ := decode_word_double s (r := r) (by omega)
  refine ⟨m', e', g1, Int.le_trans g2 ?_⟩
  have : r / 4503599627370496 ≤ t + 2 := by omega
  omega
end Go.Proofs.Ytfkblhlkeglilaa

namespace Go.Proofs.Ytfkblhlkeglilaa
open Go.RowKit Go.ChangeShapes Go.WideShapes Go.Deep
section
variable {H : Type} {enc : TypeId × Value → H} {P : Program}
def parB (P : Program) (ts : List TypeId) : Bool := ts.all fun t => P.readableRec t && decide (t < P.types.size)
theorem trodAll_below {W W' : World} (hl : laidOutB P = true) (hb : Below W.heap.size W W') {sp : Nat → Bool} : ∀ {ts : List TypeId} {vs : List Value} {ds : List (DataW H)} {ps : List MemPlace}, parB P ts = true → DataW.TrodAll enc P W 0 (fun _ => true) true ts vs ds ps →
    (∀ x ∈ ps, x.block < W.heap.size) → (∀ x ∈ ps, sp x.block = true) → DataW.TrodAll enc P W' 0 sp true ts vs ds ps
  | [], _, _, _, _, h, _, _ => by
    obtain ⟨rfl, rfl, rfl⟩ := trodAll_nil h
    exact trodAll_mk0
  | t :: ts, _, _, _, hp, h, hlt, hs => by
    obtain ⟨v, vs, d, ds, p, q, rfl, rfl, rfl, h1, h2⟩ := trodAll_cons h
    simp only [parB, List.all_cons, Bool.and_eq_true, decide_eq_true_eq] at hp
    refine ⟨p, q, WideElems.Trod_stays hl hp.1.1 hp.1.2 h1 (fun x hx => hb.same (hlt x (List.mem_append_left _ hx))) (fun x hx => hs x (List.mem_append_left _ hx)), ?_, rfl⟩
    exact trodAll_below hl hb (by simpa [parB] using hp.2) h2 (fun x hx => hlt x (List.mem_append_right _ hx)) (fun x hx => hs x (List.mem_append_right _ hx))
/-- A law that only reads: true, and each argument reads as it did. -/
theorem law_post {f : Func} {s : ChangeSpec} {fresh handsOn again : Bool} {W W' : World} {args : Array Value} {ds gs : List (DataW H)} {before : List MemPlace} {t : TypeId}
    (hl : laidOutB P = true) (hpar : parB P f.params.toList = true) (hrt : f.resultTypes = #[t]) (ht : P.underlying t = some .bool) (hvars : s.vars = [])
    (hfn : s.fn H (ds ++ gs) = { results := [.lit (.bool true)], args := ds })
    (hW : DataW.Whole enc P f.params.toList s.vars false W args.toList ds gs before) (hb : Below W.heap.size W W') : s.post enc P f false fresh handsOn again W args (.bool true) W' := by
  have hW' := hW
  obtain ⟨p, q, hA, hV, rfl, hfz, hnd⟩ := hW'
  rw [hvars] at hV
  obtain ⟨rfl, rfl⟩ := trodVars_none hV
  have hlt : ∀ x ∈ p, x.block < W.heap.size := fun x hx => by simpa using hW.lt x (by simpa using hx)
  have hres : ∀ (b : Nat) (sp : Nat → Bool) (hd : Bool), DataW.TrodAll enc P W' b sp hd f.resultTypes.toList ((Value.bool true).resultList f.resultTypes.size) (s.fn H (ds ++ [])).results [] := by
    intro b sp hd
    rw [hfn, hrt]
    exact trodAll_mk1 (shut_bool ht true)
  have hargs : ∀ sp : Nat → Bool, (∀ x ∈ p, sp x.block = true) → DataW.TrodAll enc P W' 0 sp true f.params.toList args.toList (s.fn H (ds ++ [])).args p := by
    intro sp hs
    rw [hfn]
    exact trodAll_below hl hb hpar hA hlt hs
  have hvs : ∀ sp : Nat → Bool, DataW.TrodVars enc P W' sp s.vars (s.fn H (ds ++ [])).vars [] := by
    intro sp
    rw [hvars, hfn]
    rfl
  refine ⟨ds, [], _, [], p, [], hW, hres _ _ _, hargs _ (fun x hx => by simpa using hlt x hx), hvs _, hb.frame _, fun _ => ?_⟩
  refine ⟨ok_one hrt rfl (okWide_bool_mk ht true), _, _, ([] ++ p) ++ [], ⟨[] ++ p, [], trodAll_append (hargs _ (fun _ _ => rfl)) (hres _ _ _), hvs _, rfl, ?_, fun h => by cases h⟩, ?_⟩
  · intro b off hp
    have hp' : MemPlace.cell b off ∈ p := by simpa using hp
    rw [hb.frozen (p := ⟨b, off, none⟩) (hlt _ hp')]
    exact hfz b off (by simpa using hp')
  · intro x hx _
    simpa using hx
end
end Go.Proofs.Ytfkblhlkeglilaa

namespace Go.Proofs.Ytfkblhlkeglilaa
open Go.RowKit
def hd (f : Nat → Option Addr × Nat) (xss : List (List Nat)) : List Value := (List.range xss.length).map fun i => .slice (f i).1 (xss.getD i []).length (f i).2
def rents (t : TypeId) (f : Nat → Option Addr × Nat) (xss : List (List Nat)) : List Ent := (List.range xss.length).map fun i => ⟨(f i).1, fl (xss.getD i []), (f i).2 * 1, t⟩
theorem rents_mem {t : TypeId} {f : Nat → Option Addr × Nat} {xss : List (List Nat)} {i : Nat} (h : i < xss.length) : (⟨(f i).1, fl (xss.getD i []), (f i).2 * 1, t⟩ : Ent) ∈ rents t f xss := by
  unfold rents
  exact List.mem_map.2 ⟨i, by simpa using h, rfl⟩
inductive RowsIn : List Ent → TypeId → (Nat → Option Addr × Nat) → List (List Nat) → Prop
  | here {t : TypeId} {f : Nat → Option Addr × Nat} {xss : List (List Nat)} {O : List Ent} : RowsIn (rents t f xss ++ O) t f xss
  | last {t : TypeId} {f : Nat → Option Addr × Nat} {xss : List (List Nat)} : RowsIn (rents t f xss) t f xss
  | there {t : TypeId} {f : Nat → Option Addr × Nat} {xss : List (List Nat)} {e : Ent} {O : List Ent} : RowsIn O t f xss → RowsIn (e :: O) t f xss
  | thereS {t : TypeId} {f : Nat → Option Addr × Nat} {xss : List (List Nat)} {S O : List Ent} : RowsIn O t f xss → RowsIn (S ++ O) t f xss
theorem RowsIn.mem {O : List Ent} {t : TypeId} {f : Nat → Option Addr × Nat} {xss : List (List Nat)} (h : RowsIn O t f xss) : ∀ i, i < xss.length → (⟨(f i).1, fl (xss.getD i []), (f i).2 * 1, t⟩ : Ent) ∈ O := by
  induction h with
  | here => exact fun i hi => List.mem_append_left _ (rents_mem hi)
  | last => exact fun i hi => rents_mem hi
  | there _ ih => exact fun i hi => List.mem_cons_of_mem _ (ih i hi)
  | thereS _ ih => exact fun i hi => List.mem_append_right _ (ih i hi)
section
variable {P : Program} {n : Nat} {w0 : World} {O : List Ent} {E : Env} {o : Oper}
def rdRes (tmps : Array Value) : ResultVar → Sem Value
  | .tmp t => pure (tmps.getD t undef)
  | .cell c t => do loadVar t (← asAddr (tmps.getD c undef))
theorem results_rd (fn : Func) (tmps : Array Value) : results fn tmps = (do let vs ← fn.results.mapM (rdRes tmps); pure (if h : vs.size = 1 then vs[0] else .tuple vs)) := by
  unfold results
  congr 1
def RV (n : Nat) (P : Program) (w0 : World) (O : List Ent) (E : Env) (r : ResultVar) (u : Value) : Prop :=
  ∀ (a : Act) (w : World), Models n E a → Hp w0 O w → ∃ v, (rdRes a.tmps r).run P w = .ok v w ∧ cn1 v = u
theorem rv_tmp {t : Tmp} {u : Value} (hu : E.get t = some u) (hn : ∀ z, u ≠ .tuple z) : RV n P w0 O E (.tmp t) u := by
  intro a w ha hw
  obtain ⟨v, h1, h2⟩ := ha.get t u hu
  exact ⟨v, by simp [rdRes, h1], cn_of_ne h2 hn⟩
theorem rv_cellS {c : Tmp} {t : TypeId} {a : Option Addr} {k z : Nat} {us cs : List Value} {fs : Array Field} (hu : E.get c = some (.pointer (some (adr a k)))) (ht : P.underlying t = some (.struct fs)) (hz : (P.info? t).map (·.size) = some z) (hs : Sees w0 O a us)
    (hcs : (us.drop k).take z = cs) (hl : cs.length = z) (hsc : cs.all scal = true) : RV n P w0 O E (.cell c t) (.agg cs.toArray) := by
  intro ac w ha hw
  obtain ⟨v, h1, h2⟩ := ha.get c _ hu
  have e1 := cn_pointer h2
  obtain ⟨vs, g1, g2, g3⟩ := (hs w hw).cellsN cs k (fun j u hj => by
    subst hcs
    have hj' : j < z := by
      have := (List.getElem?_eq_some_iff.1 hj).1
      simp at this; omega
    rw [List.getElem?_take, if_pos hj', List.getElem?_drop] at hj
    exact hj)
  obtain ⟨h4, h5⟩ := map_cn0_of g3 hsc
  have hload := run_loadCells_adr (P := P) (w := w) (a := a) (k := k) vs g2
  rw [g1, hl] at hload
  refine ⟨.agg vs.toArray, ?_, by simp [cn1, h4]⟩
  simp [rdRes, h1, e1, asAddr, loadVar, aggB ht, info_size hz, hload]
inductive RVs (n : Nat) (P : Program) (w0 : World) (O : List Ent) (E : Env) : List ResultVar → List Value → Prop
  | nil : RVs n P w0 O E [] []
  | cons {r : ResultVar} {u : Value} {rs : List ResultVar} {us : List Value} : RV n P w0 O E r u → RVs n P w0 O E rs us → RVs n P w0 O E (r :: rs) (u :: us)
theorem RVs.run {rs : List ResultVar} {us : List Value} (h : RVs n P w0 O E rs us) {a : Act} {w : World} (ha : Models n E a) (hw : Hp w0 O w) :
    ∃ vs : List Value, (rs.mapM (m := Sem) (rdRes a.tmps)).run P w = .ok vs w ∧ vs.map cn1 = us := by
  induction h with
  | nil => exact ⟨[], rfl, rfl⟩
  | cons hr _ ih =>
    obtain ⟨v, h1, h2⟩ := hr a w ha hw
    obtain ⟨vs, h3, h4⟩ := ih
    exact ⟨v :: vs, by simp only [List.mapM_cons, Sem.run_bind, h1, Result.andThen_ok, h3, Sem.run_pure], by simp [h2, h4]⟩
theorem run_results {fn : Func} {rs : List ResultVar} {us : List Value} (hr : fn.results = rs.toArray) (h : RVs n P w0 O E rs us) {a : Act} {w : World} (ha : Models n E a) (hw : Hp w0 O w) :
    ∃ vs : List Value, (results fn a.tmps).run P w = .ok (if h : vs.toArray.size = 1 then vs.toArray[0] else .tuple vs.toArray) w ∧ vs.map cn1 = us := by
  obtain ⟨vs, h1, h2⟩ := h.run ha hw
  refine ⟨vs, ?_, h2⟩
  rw [results_rd, hr, Array.mapM_eq_mapM_toList, Sem.run_bind, Sem.run_map]
  rw [h1]
  rfl
theorem retC {fn : Func} {R : Value → World → Prop} {r : ResultVar} {u : Value} (hr : fn.results = #[r]) (h : RV n P w0 O E r u) (hn : ∀ z, u ≠ .tuple z) (hk : ∀ w, Hp w0 O w → R u w) : VE n w0 O E (Ends P fn R) .ret := by
  intro a w ha hw
  obtain ⟨vs, h1, h2⟩ := run_results (rs := [r]) hr (.cons h .nil) ha hw
  match vs, h2 with
  | [v], h2 =>
    simp only [List.map_cons, List.map_nil, List.cons.injEq, and_true] at h2
    refine bodyPost_ret h1 ha.defers ⟨v, rfl, ?_⟩
    have : cn v = u := by
      rw [← h2] at hn ⊢
      cases v <;> first | rfl | exact absurd rfl (hn _)
    rw [this]; exact hk w hw
theorem retN {fn : Func} {R : Value → World → Prop} {rs : List ResultVar} {us : List Value} (hr : fn.results = rs.toArray) (h : RVs n P w0 O E rs us) (h2 : us.length ≠ 1) (hk : ∀ w, Hp w0 O w → R (.tuple us.toArray) w) : VE n w0 O E (Ends P fn R) .ret := by
  intro a w ha hw
  obtain ⟨vs, h1, h3⟩ := run_results hr h ha hw
  have hl : ¬ vs.toArray.size = 1 := by rw [← h3] at h2; simpa using h2
  rw [dif_neg hl] at h1
  refine bodyPost_ret h1 ha.defers ⟨_, rfl, ?_⟩
  have := hk w hw
  rw [← h3] at this
  simpa [cn] using this
end
end Go.Proofs.Ytfkblhlkeglilaa

namespace Go.Proofs.Ytfkblhlkeglilaa
open Go.RowKit
def idxI (p : Nat → Bool) : Nat → Int
  | 0 => -1
  | n + 1 => if 0 ≤ idxI p n then idxI p n else if p n then n else -1
theorem idxI_no {p : Nat → Bool} : ∀ {n : Nat}, (∀ j, j < n → p j = false) → idxI p n = -1
  | 0, _ => rfl
  | n + 1, h => by
    have := idxI_no (n := n) (fun j hj => h j (by omega))
    simp [idxI, this, h n (by omega)]
theorem idxI_of {p : Nat → Bool} {k : Nat} (h : ∀ j, j < k → p j = false) (hk : p k = true) : ∀ {n : Nat}, k < n → idxI p n = k
  | 0, h => by omega
  | n + 1, hn => by
    by_cases e : k = n
    · subst e
      simp [idxI, idxI_no h, hk]
    · have := idxI_of h hk (n := n) (by omega)
      simp [idxI, this]
theorem idxI_any (p : Nat → Bool) : ∀ (n : Nat), decide (0 ≤ idxI p n) = (List.range n).any p
  | 0 => rfl
  | n + 1 => by
    have ih := idxI_any p n
    rw [List.range_succ, List.any_append, ← ih]
    simp only [idxI]
    by_cases h : 0 ≤ idxI p n
    · simp [h]
    · rcases Bool.eq_false_or_eq_true (p n) with hp | hp
      · simp [h, hp]
      · simp [h, hp]
section
variable {P : Program} {n : Nat} {w0 : World} {O : List Ent} {E : Env} {o : Oper}
/-- A function value with captured pointers. -/
theorem yr_func1 {f : Fn} {c : Operand} {p : Option Addr} (ho : o.op = .makeFunc f #[] #[c]) (hc : E.opd c = some (.pointer p)) : YR P E o (.func f #[] #[.pointer p]) :=
  yr_func ho (fun ρ hE => by simp [cn_pointer (hE.get (x := c) (by simp [ho, Op.operands]) hc)]) (fun _ => rfl)
end
end Go.Proofs.Ytfkblhlkeglilaa

namespace Go.Proofs.Ytfkblhlkeglilaa
open Go.RowKit
theorem units_pos (f : Ieee.Format) {r : Nat} (h : r ≠ 0) : units f r ≠ 0 := fun e => h ((units_zero f).1 e)
/-- A number that the format has is written as its word. -/
theorem nearest_units (f : Ieee.Format) (s : Bool) {m r a b : Nat} {e : Int} (hr : r ≤ f.infRung) (he : e + a = f.leastPlace + b) (h : m * 2 ^ b = units f r * 2 ^ a) : f.nearest s m e = f.word s r := by
  unfold Ieee.Format.nearest
  have hpa := pow_pos' a
  have hpb := pow_pos' b
  by_cases hr0 : r = 0
  · subst hr0
    have hu : units f 0 = 0 := (units_zero f).2 rfl
    rw [hu, Nat.zero_mul] at h
    have hm : m = 0 := by
      rcases Nat.mul_eq_zero.1 h with h | h
      · exact h
      · omega
    rw [if_pos hm]
  · have hu := units_pos f hr0
    have hm : m ≠ 0 := by
      rintro rfl
      rw [Nat.zero_mul] at h
      rcases Nat.mul_eq_zero.1 h.symm with h | h
      · exact hu h
      · omega
    rw [if_neg hm]
    have hl : m.log2 + b = (units f r).log2 + a := by rw [← log2_mul_pow hm b, ← log2_mul_pow hu a, h]
    have hb : 0 < f.binade := pow_pos' _
    -- the kept digits, for any last place at which the number is whole
    have key : ∀ (q t : Nat), q ≠ 0 → units f r = q * 2 ^ t → Ieee.Toward.even.cut s (m <<< (e - (f.leastPlace + t)).toNat) ((f.leastPlace + t) - e).toNat = q := by
      intro q t hq hqt
      rw [hqt, Nat.mul_assoc, ← Nat.pow_add] at h
      rcases Nat.le_total (t + a) b with hle | hle
      · have e1 : (e - (f.leastPlace + t)).toNat = b - (t + a) := by omega
        have e2 : ((f.leastPlace + t) - e).toNat = 0 := by omega
        rw [e1, e2, cut_zero, shl_eq]
        have : b = (b - (t + a)) + (t + a) := by omega
        rw [this, Nat.pow_add, ← Nat.mul_assoc] at h
        exact Nat.eq_of_mul_eq_mul_right (pow_pos' _) h
      · have e1 : (e - (f.leastPlace + t)).toNat = 0 := by omega
        have e2 : ((f.leastPlace + t) - e).toNat = t + a - b := by omega
        have : t + a = (t + a - b) + b := by omega
        rw [this, Nat.pow_add, ← Nat.mul_assoc] at h
        have hm' := Nat.eq_of_mul_eq_mul_right hpb h
        rw [e1, e2, shl_eq, Nat.pow_zero, Nat.mul_one, hm']
        exact cut_exact s q _ hq
    by_cases hrb : r < f.binade
    · have hur : units f r = r := by unfold units; rw [if_pos hrb]
      have hlg : (units f r).log2 < f.fractionBits := by
        rw [hur]
        exact (Nat.log2_lt hr0).2 hrb
      have hlast : max (e + (m.log2 : Int) - (f.fractionBits : Int)) f.leastPlace = f.leastPlace + ((0 : Nat) : Int) := by omega
      simp only [hlast]
      have := key r 0 hr0 (by rw [hur]; simp)
      rw [this]
      simp
      rw [Nat.min_eq_left hr]
    · have hq1 : 1 ≤ r / f.binade := (Nat.le_div_iff_mul_le hb).2 (by omega)
      have hmod := Nat.mod_lt r hb
      have hur : units f r = (f.binade + r % f.binade) * 2 ^ (r / f.binade - 1) := by unfold units; rw [if_neg hrb]
      have hqne : f.binade + r % f.binade ≠ 0 := by omega
      have hlg : (units f r).log2 = f.fractionBits + (r / f.binade - 1) := by
        rw [hur, log2_mul_pow hqne]
        congr 1
        rw [Nat.log2_eq_iff hqne]
        have hbe : f.binade = 2 ^ f.fractionBits := rfl
        rw [Nat.pow_succ, ← hbe]
        omega
      have hlast : max (e + (m.log2 : Int) - (f.fractionBits : Int)) f.leastPlace = f.leastPlace + ((r / f.binade - 1 : Nat) : Int) := by omega
      simp only [hlast]
      rw [key _ _ hqne hur]
      congr 1
      have e1 : (f.leastPlace + ((r / f.binade - 1 : Nat) : Int) - f.leastPlace).toNat = r / f.binade - 1 := by omega
      rw [e1]
      have e2 := Nat.div_add_mod r f.binade
      have e3 : (r / f.binade - 1) * f.binade + (f.binade + r % f.binade) = r := by
        have : r / f.binade = (r / f.binade - 1) + 1 := by omega
        rw [this, Nat.mul_add, Nat.mul_one] at e2
        rw [Nat.mul_comm]
        omega
      rw [e3, Nat.min_eq_left hr]
/-- The absolute value: without the sign. -/
def fabs (k : FloatKind) (x : Nat) : Nat := if fnan k x then qn k else x % k.format.signWeight
theorem rng_abs (f : Ieee.Format) (x : Nat) : rng f (x % f.signWeight) = rng f x := Nat.mod_mod _ _
theorem fnan_rng (k : FloatKind) (x : Nat) : fnan k x = decide (k.format.infRung < rng k.format x) := by
  cases h : fnan k x
  · have := rng_le h
    symm; exact decide_eq_false (by omega)
  · symm
    apply decide_eq_true
    apply Classical.byContradiction
    intro hn
    rcases Nat.lt_or_ge (rng k.format x) k.format.infRung with h1 | h1
    · obtain ⟨m, e, h2, _⟩ := read_number k.format h1
      unfold fnan FloatKind.decode at h
      rw [h2] at h
      cases h
    · have h2 := read_inf k (x := x) (by omega)
      unfold fnan FloatKind.decode at h
      rw [h2] at h
      cases h
theorem fnan_abs (k : FloatKind) (x : Nat) : fnan k (x % k.format.signWeight) = fnan k x := by rw [fnan_rng, fnan_rng, rng_abs]
theorem rng_word (k : FloatKind) (s : Bool) {r : Nat} (h : r ≤ k.format.infRung) : rng k.format (k.format.word s r) = r ∧ sgn k.format (k.format.word s r) = s := by
  have hlt : r < k.format.signWeight := Nat.lt_of_le_of_lt h (by cases k <;> decide)
  have hp : 0 < k.format.signWeight := pow_pos' _
  unfold rng sgn Ieee.Format.word
  cases s
  · simp only [Bool.false_eq_true, if_false]
    rw [Nat.mod_eq_of_lt hlt, Nat.div_eq_of_lt hlt]
    exact ⟨rfl, rfl⟩
  · simp only [if_true]
    rw [Nat.add_mod_left, Nat.mod_eq_of_lt hlt, Nat.add_div_left _ hp, Nat.div_eq_of_lt hlt]
    exact ⟨rfl, rfl⟩
theorem cb_abs64 (b : Nat) : cb .f64 (b % 9223372036854775808) = fabs .f64 (cb .f64 b) := by
  have e : ∀ x, fnan .f64 (x % 9223372036854775808) = fnan .f64 x := fnan_abs .f64
  unfold fabs
  rw [fnan_cb]
  cases hn : fnan .f64 b
  · rw [cb_num (by rw [e, hn]), cb_num hn]; rfl
  · rw [cb_of_nan (by rw [e, hn])]; rfl
end Go.Proofs.Ytfkblhlkeglilaa

namespace Go.Proofs.Ytfkblhlkeglilaa
open Go.RowKit
namespace Dr
/-- What an operation makes whatever is there: by its place in the region. -/
abbrev Tab := List (Nat × ((Nat → Value) × (Nat → Ent)))
def Tab.get : Tab → Nat → (Nat → Value) × (Nat → Ent)
  | [], _ => (fun _ => undef, fun _ => ⟨none, [], 0, 0⟩)
  | (j, p) :: l, i => match Nat.beq j i with | true => p | false => Tab.get l i
section
variable {P : Program} {n : Nat} {w0 : World} {O R : List Ent} {T : Tab} {E : Env} {ops : Array Oper}
/-- Something new is made, whatever is there. -/
def YA (P : Program) (E : Env) (o : Oper) (u : Nat → Value) (e : Nat → Ent) : Prop :=
  ∀ ρ w, Ev E o.op ρ → ResOk P (fun v w' => ∃ b, cn v = u b ∧ Below w.heap.size w w' ∧ Ent.at w.heap.size w' (e b)) ((execOp ρ o).run P w)
theorem YA.of {o : Oper} {u : Nat → Value} {e : Nat → Ent} (h : ∀ w0, YN P w0 [] E o u (fun b => [e b])) : YA P E o u e := by
  intro ρ w hE
  refine (h w ρ w hE (Hp.refl w)).mono fun v w' ⟨b, h1, h2, h3, _⟩ => ⟨b, h1, h2, h3 _ List.mem_cons_self⟩
theorem YA.weaken {E' : Env} {o : Oper} {u : Nat → Value} {e : Nat → Ent} (h : YA P E o u e) (hE : ∀ x ∈ o.op.operands, E'.opd x = E.opd x) : YA P E' o u e :=
  fun ρ w hρ => h ρ w (fun x hx u hu => hρ x hx u (by rw [hE x hx]; exact hu))
/-- What an operation does: a value and what is owned then, for some x. -/
inductive Eff (P : Program) (w0 : World) (ops : Array Oper) (R : List Ent) : Kd → Oper → Env → List Ent → (X : Type) → (X → Value) → (X → List Ent) → Prop
  | skip {k : Kd} {o : Oper} {E : Env} {O : List Ent} : Guard ops E o false → Eff P w0 ops R k o E O Unit (fun _ => undef) (fun _ => O)
  | quiet {o : Oper} {E : Env} {O : List Ent} {u : Value} : Guard ops E o true → YQ P w0 (O ++ R) E o u → Eff P w0 ops R 0 o E O Unit (fun _ => u) (fun _ => O)
  | quietR {o : Oper} {E : Env} {O : List Ent} {u : Value} : Guard ops E o true → YQ P w0 R E o u → Eff P w0 ops R 5 o E O Unit (fun _ => u) (fun _ => O)
  | make {o : Oper} {E : Env} {O : List Ent} {X : Type} {u : X → Value} {N : X → List Ent} : Guard ops E o true → YN P w0 (O ++ R) E o u N → Eff P w0 ops R 1 o E O X u (fun x => N x ++ O)
  | turn {o : Oper} {E : Env} {O : List Ent} {X : Type} {u : X → Value} {O' : X → List Ent} : Guard ops E o true → YC P w0 (O ++ R) E o u (fun x => O' x ++ R) → Eff P w0 ops R 3 o E O X u O'
/-- One operation, and K behind it. -/
def Stp (P : Program) (n : Nat) (w0 : World) (ops : Array Oper) (T : Tab) (k : Kd) (i : Nat) (o : Oper) (E : Env) (O R : List Ent) (K : Env → List Ent → List Ent → Prop) : Prop :=
  if k = 2 then o.guard = none ∧ DOk n o ∧ YA P E o (T.get i).1 (T.get i).2 ∧ ∀ b, K (putE E o.dst ((T.get i).1 b)) ((T.get i).2 b :: O) R
  else if k = 4 then ∃ (X : Type) (u : X → Value) (O' : X → List Ent), Nonempty X ∧ Guard ops E o true ∧ YC P w0 (O ++ R) E o u O' ∧ DOk n o ∧ ∀ x, K (putE E o.dst (u x)) (O' x) []
  else ∃ (X : Type) (u : X → Value) (O' : X → List Ent), Nonempty X ∧ Eff P w0 ops R k o E O X u O' ∧ DOk n o ∧ ∀ x, K (putE E o.dst (u x)) (O' x) R
/-- The walk: the operations of π in this order. -/
def SW (P : Program) (n : Nat) (w0 : World) (ops : Array Oper) (T : Tab) (K : Env → List Ent → List Ent → Prop) : List (Nat × Kd) → Env → List Ent → List Ent → Prop
  | [], E, O, R => K E O R
  | (i, k) :: π, E, O, R => ∃ o, ops[i]? = some o ∧ Stp P n w0 ops T k i o E O R (SW P n w0 ops T K π)
/-- K does not look at the order of what is known. -/
def Lax3 (w0 : World) (K : Env → List Ent → List Ent → Prop) : Prop :=
  ∀ E E' O O' R, (∀ t, E'.get t = E.get t) → (∀ F w, Hp w0 (F ++ O') w → Hp w0 (F ++ O) w) → K E O R → K E' O' R
theorem frame {O' : List Ent} (h : ∀ F w, Hp w0 (F ++ O') w → Hp w0 (F ++ O) w) : ∀ F w, Hp w0 (F ++ (O' ++ R)) w → Hp w0 (F ++ (O ++ R)) w := by
  intro F w hw
  have h1 : (F ++ (O' ++ R)).Perm ((F ++ R) ++ O') := by
    rw [List.append_assoc]
    exact List.Perm.append_left F List.perm_append_comm
  have h2 : ((F ++ R) ++ O).Perm (F ++ (O ++ R)) := by
    rw [List.append_assoc]
    exact List.Perm.append_left F List.perm_append_comm
  exact (h (F ++ R) w (hw.perm' h1)).perm' h2
/-- The effect, seen from what says the same. -/
theorem Eff.lax {E' : Env} {O' : List Ent} {k : Kd} {o : Oper} {X : Type} {u : X → Value} {S : X → List Ent} (hE : ∀ t, E'.get t = E.get t) (hO : ∀ F w, Hp w0 (F ++ O') w → Hp w0 (F ++ O) w) (h : Eff P w0 ops R k o E O X u S) :
    ∃ S', Eff P w0 ops R k o E' O' X u S' ∧ ∀ x F w, Hp w0 (F ++ S' x) w → Hp w0 (F ++ S x) w := by
  have hop := opd_same hE
  cases h with
  | skip hg => exact ⟨_, .skip (hg.same fun t _ => hE t), fun _ => hO⟩
  | quiet hg h => exact ⟨_, .quiet (hg.same fun t _ => hE t) (h.weaken (fun x _ => hop x) (hp_nil (frame hO))), fun _ => hO⟩
  | quietR hg h => exact ⟨_, .quietR (hg.same fun t _ => hE t) (h.weaken (fun x _ => hop x) (fun _ h => h)), fun _ => hO⟩
  | make hg h => exact ⟨_, .make (hg.same fun t _ => hE t) (h.weaken (fun x _ => hop x) (hp_nil (frame hO))), fun x => Hp.perm hO⟩
  | turn hg h => exact ⟨_, .turn (hg.same fun t _ => hE t) (fun ρ w F hρ hw => h ρ w F (fun x hx u hu => hρ x hx u (by rw [hop x]; exact hu)) (frame hO F w hw)), fun _ _ _ h => h⟩
theorem Stp.lax {k : Kd} {i : Nat} {o : Oper} {K : Env → List Ent → List Ent → Prop} (hK : Lax3 w0 K) : Lax3 w0 (fun E O R => Stp P n w0 ops T k i o E O R K) := by
  intro E E' O O' R hE hO h
  simp only [Stp] at h ⊢
  split at h
  · rename_i hk
    rw [if_pos hk]
    exact ⟨h.1, h.2.1, h.2.2.1.weaken (fun x _ => opd_same hE x), fun b => hK _ _ _ _ _ (put_congr hE _ _) (fun F w => by simpa using Hp.perm (N := [(T.get i).2 b]) hO F w) (h.2.2.2 b)⟩
  · rename_i hk
    rw [if_neg hk]
    split at h
    · rename_i hk4
      rw [if_pos hk4]
      obtain ⟨X, u, S, h0, hg, h1, h2, h3⟩ := h
      exact ⟨X, u, S, h0, hg.same fun t _ => hE t, fun ρ w F hρ hw => h1 ρ w F (fun x hx u hu => hρ x hx u (by rw [opd_same hE x]; exact hu)) (frame hO F w hw), h2, fun x => hK _ _ _ _ _ (put_congr hE _ _) (fun _ _ h => h) (h3 x)⟩
    · rename_i hk4
      rw [if_neg hk4]
      obtain ⟨X, u, S, h0, h1, h2, h3⟩ := h
      obtain ⟨S', h4, h5⟩ := h1.lax hE hO
      exact ⟨X, u, S', h0, h4, h2, fun x => hK _ _ _ _ _ (put_congr hE _ _) (h5 x) (h3 x)⟩
theorem SW.lax {K : Env → List Ent → List Ent → Prop} (hK : Lax3 w0 K) : ∀ π, Lax3 w0 (SW P n w0 ops T K π)
  | [] => hK
  | (i, k) :: π => by
    intro E E' O O' R hE hO ⟨o, ho, h⟩
    exact ⟨o, ho, Stp.lax (SW.lax hK π) _ _ _ _ _ hE hO h⟩
/-- p is walked before q; may q be carried out before p? -/
def swapOk (ops : Array Oper) (kp kq : Kd) (p q : Oper) : Bool :=
  (match p.dst with | some d => !(q.looksAt ops).contains d && q.dst != some d | none => true) &&
  (match q.dst with | some d => !(p.looksAt ops).contains d | none => true) &&
  ((kp == 0 && (kq == 0 || kq == 1 || kq == 5)) || (kp == 5 && (kq == 0 || kq == 1 || kq == 3 || kq == 5)) || (kq == 2 && kp != 4))
theorem Eff.put {k : Kd} {o : Oper} {d : Option Nat} {u : Value} {X : Type} {v : X → Value} {S : X → List Ent} (h : ∀ x, d = some x → (o.looksAt ops).contains x = false) :
    Eff P w0 ops R k o (putE E d u) O X v S ↔ Eff P w0 ops R k o E O X v S := by
  constructor
  · intro he
    cases he with
    | skip hg => exact .skip ((guard_put h).1 hg)
    | quiet hg hy => exact .quiet ((guard_put h).1 hg) (hy.weaken (fun x hx => (opd_put h u x hx).symm) fun _ h => h)
    | quietR hg hy => exact .quietR ((guard_put h).1 hg) (hy.weaken (fun x hx => (opd_put h u x hx).symm) fun _ h => h)
    | make hg hy => exact .make ((guard_put h).1 hg) (hy.weaken (fun x hx => (opd_put h u x hx).symm) fun _ h => h)
    | turn hg hy => exact .turn ((guard_put h).1 hg) (fun ρ w F hρ hw => hy ρ w F (fun x hx v hv => hρ x hx v (by rw [← opd_put h u x hx]; exact hv)) hw)
  · intro he
    cases he with
    | skip hg => exact .skip ((guard_put h).2 hg)
    | quiet hg hy => exact .quiet ((guard_put h).2 hg) (hy.weaken (fun x hx => opd_put h u x hx) fun _ h => h)
    | quietR hg hy => exact .quietR ((guard_put h).2 hg) (hy.weaken (fun x hx => opd_put h u x hx) fun _ h => h)
    | make hg hy => exact .make ((guard_put h).2 hg) (hy.weaken (fun x hx => opd_put h u x hx) fun _ h => h)
    | turn hg hy => exact .turn ((guard_put h).2 hg) (fun ρ w F hρ hw => hy ρ w F (fun x hx v hv => hρ x hx v (by rw [opd_put h u x hx]; exact hv)) hw)
/-- .. with one entry more -/
theorem Eff.beside {k : Kd} {o : Oper} {e : Ent} {X : Type} {v : X → Value} {S : X → List Ent} (he : Eff P w0 ops R k o E O X v S) :
    ∃ S', Eff P w0 ops R k o E (e :: O) X v S' ∧ ∀ x F w, Hp w0 (F ++ S' x) w → Hp w0 (F ++ (e :: S x)) w := by
  have hsub : ∀ w, Hp w0 (e :: O ++ R) w → Hp w0 (O ++ R) w := fun w h => h.sub (List.sublist_cons_self e (O ++ R))
  cases he with
  | skip hg => exact ⟨_, .skip hg, fun _ _ _ h => h⟩
  | quiet hg hy => exact ⟨_, .quiet hg (hy.weaken (fun _ _ => rfl) hsub), fun _ _ _ h => h⟩
  | quietR hg hy => exact ⟨_, .quietR hg hy, fun _ _ _ h => h⟩
  | make hg hy =>
    exact ⟨_, .make hg (hy.weaken (fun _ _ => rfl) hsub), fun x F w h => swap_hp (N := _) (M := [e]) F w h⟩
  | turn hg hy =>
    refine ⟨fun x => e :: S x, .turn hg fun ρ w F hρ hw => ?_, fun _ _ _ h => h⟩
    have := hy ρ w (F ++ [e]) hρ (by simpa using hw)
    refine this.mono fun v w' ⟨x, h1, h2⟩ => ⟨x, h1, by simpa using h2⟩
theorem Stp.swap {kp kq : Kd} {ip iq : Nat} {p q : Oper} {K : Env → List Ent → List Ent → Prop} (hK : Lax3 w0 K) (hs : swapOk ops kp kq p q = true)
    (h : Stp P n w0 ops T kp ip p E O R (fun E O R => Stp P n w0 ops T kq iq q E O R K)) : Stp P n w0 ops T kq iq q E O R (fun E O R => Stp P n w0 ops T kp ip p E O R K) := by
  simp only [swapOk, Bool.and_eq_true, Bool.or_eq_true, beq_iff_eq, bne_iff_ne, ne_eq] at hs
  obtain ⟨⟨hs1, hs2⟩, hs3⟩ := hs
  have d1 : ∀ d, p.dst = some d → (q.looksAt ops).contains d = false := fun d hd => by rw [hd] at hs1; simpa using (Bool.and_eq_true_iff.1 hs1).1
  have d2 : ∀ d, p.dst = some d → q.dst ≠ some d := fun d hd => by rw [hd] at hs1; simpa using (Bool.and_eq_true_iff.1 hs1).2
  have d3 : ∀ d, q.dst = some d → (p.looksAt ops).contains d = false := fun d hd => by rw [hd] at hs2; simpa using hs2
  have hid : ∀ (O : List Ent) (F : List Ent) (w : World), Hp w0 (F ++ O) w → Hp w0 (F ++ O) w := fun _ _ _ h => h
  have hp4 : ¬ kp = 4 := by
    rcases hs3 with (⟨h1, _⟩ | ⟨h1, _⟩) | ⟨_, h2⟩
    · rw [h1]; decide
    · rw [h1]; decide
    · exact h2
  by_cases hq : kq = 2
  · subst hq
    simp only [Stp, if_true, if_neg hp4] at h ⊢
    split at h
    · rename_i hp
      have h0 := (h.2.2.2 0)
      refine ⟨h0.1, h0.2.1, h0.2.2.1.weaken (fun x hx => (opd_put d1 _ x hx).symm), fun b => ?_⟩
      rw [if_pos hp]
      refine ⟨h.1, h.2.1, h.2.2.1.weaken (fun x hx => opd_put d3 _ x hx), fun c => ?_⟩
      have h3 := (h.2.2.2 c).2.2.2 b
      refine hK _ _ _ _ _ (fun t => (put_swap d2 _ _ E t).symm) (fun F w hw => ?_) h3
      have := swap_hp (N := [(T.get ip).2 c]) (M := [(T.get iq).2 b]) (O := O) F w (by simpa using hw)
      simpa using this
    · rename_i hp
      obtain ⟨X, u, S, ⟨x0⟩, h1, h2, h3⟩ := h
      have h0 := h3 x0
      refine ⟨h0.1, h0.2.1, h0.2.2.1.weaken (fun x hx => (opd_put d1 _ x hx).symm), fun b => ?_⟩
      rw [if_neg hp]
      obtain ⟨S', h4, h5⟩ := h1.beside (e := (T.get iq).2 b)
      refine ⟨X, u, S', ⟨x0⟩, (Eff.put d3).2 h4, h2, fun x => ?_⟩
      exact hK _ _ _ _ _ (fun t => (put_swap d2 _ _ E t).symm) (h5 x) ((h3 x).2.2.2 b)
  · have h0 : (kp = 0 ∧ (kq = 0 ∨ kq = 1 ∨ kq = 5)) ∨ (kp = 5 ∧ (kq = 0 ∨ kq = 1 ∨ kq = 3 ∨ kq = 5)) := by
      rcases hs3 with (⟨h1, (h2 | h2) | h2⟩ | ⟨h1, ((h2 | h2) | h2) | h2⟩) | h2
      · exact .inl ⟨h1, .inl h2⟩
      · exact .inl ⟨h1, .inr (.inl h2)⟩
      · exact .inl ⟨h1, .inr (.inr h2)⟩
      · exact .inr ⟨h1, .inl h2⟩
      · exact .inr ⟨h1, .inr (.inl h2)⟩
      · exact .inr ⟨h1, .inr (.inr (.inl h2))⟩
      · exact .inr ⟨h1, .inr (.inr (.inr h2))⟩
      · exact absurd h2.1 hq
    have hp2 : ¬ kp = 2 := by rcases h0 with ⟨h, _⟩ | ⟨h, _⟩ <;> rw [h] <;> decide
    have hq4 : ¬ kq = 4 := by rcases h0 with ⟨_, h | h | h⟩ | ⟨_, h | h | h | h⟩ <;> rw [h] <;> decide
    simp only [Stp, if_neg hq, if_neg hp2, if_neg hp4, if_neg hq4] at h ⊢
    obtain ⟨X, u, S0, hX, h1, h2, h3⟩ := h
    -- the first is quiet, or does not come to its turn
    obtain ⟨u0, hu0, hp⟩ : ∃ u0, (∃ Y v S, Nonempty Y ∧ Eff P w0 ops R kq q (putE E p.dst u0) O Y v S ∧ DOk n q ∧ ∀ y, K (putE (putE E p.dst u0) q.dst (v y)) (S y) R) ∧
        ∀ E' O', (∀ x ∈ p.op.operands, E'.opd x = E.opd x) → (∀ g, Guard ops E p g → Guard ops E' p g) → (kp = 0 → ∀ w, Hp w0 (O' ++ R) w → Hp w0 (O ++ R) w) → Eff P w0 ops R kp p E' O' Unit (fun _ => u0) (fun _ => O') := by
      rcases h0 with ⟨rfl, _⟩ | ⟨rfl, _⟩
      · cases h1 with
        | skip hg => exact ⟨undef, h3 (), fun E' O' _ hg' _ => .skip (hg' _ hg)⟩
        | quiet hg hy => exact ⟨_, h3 (), fun E' O' hE hg' hO => .quiet (hg' _ hg) (hy.weaken hE (hO rfl))⟩
      · cases h1 with
        | skip hg => exact ⟨undef, h3 (), fun E' O' _ hg' _ => .skip (hg' _ hg)⟩
        | quietR hg hy => exact ⟨_, h3 (), fun E' O' hE hg' _ => .quietR (hg' _ hg) (hy.weaken hE fun _ h => h)⟩
    obtain ⟨Y, v, S, g0, g1, g2, g3⟩ := hu0
    have g1' := (Eff.put d1).1 g1
    refine ⟨Y, v, S, g0, g1', g2, fun y => ?_⟩
    have hsub : kp = 0 → ∀ w, Hp w0 (S y ++ R) w → Hp w0 (O ++ R) w := fun hk0 => by
      have hk : kq = 0 ∨ kq = 1 ∨ kq = 5 := by
        rcases h0 with ⟨_, h⟩ | ⟨h, _⟩
        · exact h
        · rw [hk0] at h; exact absurd h (by decide)
      cases g1' with
      | skip _ => exact fun _ h => h
      | quiet _ _ => exact fun _ h => h
      | quietR _ _ => exact fun _ h => h
      | make _ _ => exact fun w h => h.sub (by rw [List.append_assoc]; exact List.sublist_append_right _ _)
      | turn _ _ => rcases hk with h | h | h <;> exact absurd h (by decide)
    exact ⟨Unit, fun _ => u0, fun _ => S y, ⟨()⟩, hp _ _ (opd_put d3 _) (fun g hg => (guard_put d3).2 hg) hsub, h2, fun _ => hK _ _ _ _ _ (fun t => (put_swap d2 _ _ E t).symm) (hid _) (g3 y)⟩
/-- Of any two that are walked in this order the second waits for the first, directly, or they may change places. -/
def pairsOk (ops : Array Oper) : List (Nat × Kd) → Bool
  | [] => true
  | (i, k) :: π => (π.all fun (j, kj) => match ops[i]?, ops[j]? with
    | some p, some q => Go.Proofs.Ytfkblhlkeglilaa.pairsOk.reach ops j i || swapOk ops k kj p q
    | _, _ => false) && pairsOk ops π
theorem pairsOk_mid {i : Nat} {k : Kd} : ∀ (A B : List (Nat × Kd)), pairsOk ops (A ++ (i, k) :: B) = true →
    (∀ j kj, (j, kj) ∈ A → ∃ p q, ops[j]? = some p ∧ ops[i]? = some q ∧ (Go.Proofs.Ytfkblhlkeglilaa.pairsOk.reach ops i j = true ∨ swapOk ops kj k p q = true)) ∧ pairsOk ops (A ++ B) = true
  | [], B, h => by
    simp only [List.nil_append, pairsOk, Bool.and_eq_true] at h
    exact ⟨fun _ _ h => by (cases h), h.2⟩
  | (j, kj) :: A, B, h => by
    simp only [List.cons_append, pairsOk, Bool.and_eq_true, List.all_eq_true] at h ⊢
    obtain ⟨h1, h2⟩ := h
    obtain ⟨g1, g2⟩ := pairsOk_mid A B h2
    refine ⟨fun j' kj' hj => ?_, fun x hx => h1 x ?_, g2⟩
    · rcases List.mem_cons.1 hj with hj | hj
      · cases hj
        have := h1 (i, k) (by simp)
        dsimp only at this
        cases hp : ops[j]? with
        | none => rw [hp] at this; simp at this
        | some p =>
          cases hq : ops[i]? with
          | none => rw [hp, hq] at this; simp at this
          | some q =>
            rw [hp, hq] at this
            exact ⟨p, q, rfl, rfl, by simpa using this⟩
      · exact g1 j' kj' hj
    · rcases List.mem_append.1 hx with hx | hx
      · exact List.mem_append.2 (.inl hx)
      · exact List.mem_append.2 (.inr (List.mem_cons_of_mem _ hx))
theorem SW.front {K : Env → List Ent → List Ent → Prop} (hK : Lax3 w0 K) {i : Nat} {k : Kd} {q : Oper} (hq : ops[i]? = some q) : ∀ (A B : List (Nat × Kd)) (E : Env) (O R : List Ent),
    (∀ j kj, (j, kj) ∈ A → ∃ p, ops[j]? = some p ∧ swapOk ops kj k p q = true) → SW P n w0 ops T K (A ++ (i, k) :: B) E O R → SW P n w0 ops T K ((i, k) :: (A ++ B)) E O R
  | [], _, _, _, _, _, h => h
  | (j, kj) :: A, B, E, O, R, hs, h => by
    obtain ⟨p, hp, h⟩ := h
    obtain ⟨p', hp', hsw⟩ := hs j kj List.mem_cons_self
    obtain rfl : p = p' := Option.some.inj (hp.symm.trans hp')
    have h2 : Stp P n w0 ops T kj j p E O R (fun E O R => Stp P n w0 ops T k i q E O R (SW P n w0 ops T K (A ++ B))) := by
      have ih := fun E O R => SW.front hK hq A B E O R (fun j kj hj => hs j kj (List.mem_cons_of_mem _ hj))
      have key : ∀ E O R, SW P n w0 ops T K (A ++ (i, k) :: B) E O R → Stp P n w0 ops T k i q E O R (SW P n w0 ops T K (A ++ B)) := fun E O R h => by
        obtain ⟨q', hq', h'⟩ := ih E O R h
        obtain rfl : q = q' := Option.some.inj (hq.symm.trans hq')
        exact h'
      simp only [Stp] at h ⊢
      split at h
      · rename_i hk; rw [if_pos hk]; exact ⟨h.1, h.2.1, h.2.2.1, fun b => key _ _ _ (h.2.2.2 b)⟩
      · rename_i hk; rw [if_neg hk]
        split at h
        · rename_i hk4; rw [if_pos hk4]
          obtain ⟨X, u, R, h0, h1, h2, h3, h4⟩ := h
          exact ⟨X, u, R, h0, h1, h2, h3, fun x => key _ _ _ (h4 x)⟩
        · rename_i hk4; rw [if_neg hk4]
          obtain ⟨X, u, R, h0, h1, h2, h3⟩ := h
          exact ⟨X, u, R, h0, h1, h2, fun x => key _ _ _ (h3 x)⟩
    have h3 := Stp.swap (SW.lax hK (A ++ B)) hsw h2
    refine ⟨q, hq, ?_⟩
    simp only [Stp] at h3 ⊢
    split at h3
    · rename_i hk; rw [if_pos hk]; exact ⟨h3.1, h3.2.1, h3.2.2.1, fun b => ⟨p, hp, h3.2.2.2 b⟩⟩
    · rename_i hk; rw [if_neg hk]
      split at h3
      · rename_i hk4; rw [if_pos hk4]
        obtain ⟨X, u, R, h0, h1, h2, h3, h4⟩ := h3
        exact ⟨X, u, R, h0, h1, h2, h3, fun x => ⟨p, hp, h4 x⟩⟩
      · rename_i hk4; rw [if_neg hk4]
        obtain ⟨X, u, R, h0, h1, h2, h4⟩ := h3
        exact ⟨X, u, R, h0, h1, h2, fun x => ⟨p, hp, h4 x⟩⟩
theorem Stp.wpOp {k : Kd} {o : Oper} {i : Nat} {Q : Exit → Act → World → Prop} {K : Env → List Ent → List Ent → Prop} {S : Act → World → Prop} (ho : ops[i]? = some o) (h : Stp P n w0 ops T k i o E O R K) (hR : ∀ E' O' R', K E' O' R' → VX n w0 (O' ++ R') E' S) {a : Act} {w : World} (ha : Models n E a) (hw : Hp w0 (O ++ R) w) : Go.wpOp P ops Q i S a w := by
  unfold Go.wpOp
  simp only [ho]
  simp only [Stp] at h
  split at h
  · obtain ⟨hg, hd, hA, h⟩ := h
    rw [if_pos (by simp [Region.wanted, hg])]
    refine .inl ?_
    unfold Oper.wp
    refine (hA a.eval w (ha.ev _)).upon fun v w' ⟨b, h1, h2, h3⟩ => ?_
    exact hR _ _ _ (h b) _ _ (models_put ha hd h1) (hw.new h2 h3)
  split at h
  · obtain ⟨X, u, R', _, hg, hy, hd, h3⟩ := h
    rw [if_pos (hg.wanted ha)]
    refine .inl ?_
    unfold Oper.wp
    refine (hy a.eval w [] (ha.ev _) (by simpa using hw)).upon fun v w' ⟨x, h1, h2⟩ => ?_
    exact hR _ _ _ (h3 x) _ _ (models_put ha hd h1) (by simpa using h2)
  · obtain ⟨X, u, R', _, h1, hd, h3⟩ := h
    cases h1 with
    | skip hg =>
      rw [if_neg (by rw [hg.wanted ha]; decide)]
      exact hR _ _ _ (h3 ()) _ _ (models_put ha hd (by simp [undef, cn])) hw
    | quiet hg hy =>
      rw [if_pos (hg.wanted ha)]
      refine .inl ?_
      unfold Oper.wp
      refine (hy a.eval w (ha.ev _) hw).upon fun v w' ⟨h1, h2⟩ => ?_
      exact hR _ _ _ (h3 ()) _ _ (models_put ha hd h1) (hw.ext h2)
    | quietR hg hy =>
      rw [if_pos (hg.wanted ha)]
      refine .inl ?_
      unfold Oper.wp
      refine (hy a.eval w (ha.ev _) (hw.sub (List.sublist_append_right _ _))).upon fun v w' ⟨h1, h2⟩ => ?_
      exact hR _ _ _ (h3 ()) _ _ (models_put ha hd h1) (hw.ext h2)
    | make hg hy =>
      rw [if_pos (hg.wanted ha)]
      refine .inl ?_
      unfold Oper.wp
      refine (hy a.eval w (ha.ev _) hw).upon fun v w' ⟨x, h1, h2, h4, h5⟩ => ?_
      exact hR _ _ _ (h3 x) _ _ (models_put ha hd h1) (by rw [List.append_assoc]; exact hw.news h2 h4 h5)
    | turn hg hy =>
      rw [if_pos (hg.wanted ha)]
      refine .inl ?_
      unfold Oper.wp
      refine (hy a.eval w [] (ha.ev _) (by simpa using hw)).upon fun v w' ⟨x, h1, h2⟩ => ?_
      exact hR _ _ _ (h3 x) _ _ (models_put ha hd h1) (by simpa using h2)
theorem any_of_walk {Q : Exit → Act → World → Prop} {K : Env → List Ent → List Ent → Prop} (hK : Lax3 w0 K) (hQ : ∀ E O R, K E O R → VX n w0 (O ++ R) E (Q .normal)) (hback : backOk ops = true) :
    ∀ (fuel : Nat) (π : List (Nat × Kd)) (listed : Array Bool) (E : Env) (O R : List Ent) (a : Act) (w : World), π.length ≤ fuel → listed.size = ops.size → (∀ j, j < ops.size → (listed.getD j true = false ↔ ∃ k, (j, k) ∈ π)) → (π.map (·.1)).Nodup →
      (∀ j o, ops[j]? = some o → listed.getD j false = true → ∀ e ∈ o.after, Region.binds .any e = true → listed.getD e.on false = true) → pairsOk ops π = true → SW P n w0 ops T K π E O R → Models n E a → Hp w0 (O ++ R) w → wpAny P .any ops Q fuel listed a w := by
  have hnone : ∀ (π : List (Nat × Kd)) (listed : Array Bool) (E : Env) (O R : List Ent) (a : Act) (w : World), listed.size = ops.size → (∀ j, j < ops.size → (listed.getD j true = false ↔ ∃ k, (j, k) ∈ π)) → Region.ready .any ops listed = [] → SW P n w0 ops T K π E O R → (∀ j k, (j, k) ∈ π → j < ops.size) → Models n E a → Hp w0 (O ++ R) w → Q .normal a w := by
    intro π listed E O R a w hsz hl hr hS hlt ha hw
    have hnil : π = [] := by
      apply Classical.byContradiction
      intro hne
      -- the least index that is not listed could come up
      have hex : ∃ j, j < ops.size ∧ listed.getD j true = false := by
        cases π with
        | nil => exact absurd rfl hne
        | cons x π => obtain ⟨j, k⟩ := x; exact ⟨j, hlt j k List.mem_cons_self, (hl j (hlt j k List.mem_cons_self)).2 ⟨k, List.mem_cons_self⟩⟩
      have hmin : ∀ m, (∃ j, j ≤ m ∧ j < ops.size ∧ listed.getD j true = false) → ∃ j, j < ops.size ∧ listed.getD j true = false ∧ ∀ i, i < j → listed.getD i true = true := by
        intro m
        induction m with
        | zero => rintro ⟨j, hj, h1, h2⟩; exact ⟨j, h1, h2, fun i hi => by omega⟩
        | succ m ih =>
          rintro ⟨j, hj, h1, h2⟩
          by_cases h : ∃ j, j ≤ m ∧ j < ops.size ∧ listed.getD j true = false
          · exact ih h
          · refine ⟨j, h1, h2, fun i hi => ?_⟩
            cases hi' : listed.getD i true with
            | true => rfl
            | false => exact absurd ⟨i, by omega, by omega, hi'⟩ h
      obtain ⟨j, hj⟩ := hex
      obtain ⟨j, h1, h2, h3⟩ := hmin j ⟨j, Nat.le_refl _, hj⟩
      have hmem : j ∈ Region.ready .any ops listed := by
        refine mem_ready.2 ⟨h2, ops[j], Array.getElem?_eq_getElem h1, fun e he hb => ?_⟩
        have hb' := List.all_eq_true.1 hback j (List.mem_range.2 h1)
        rw [Array.getElem?_eq_getElem h1] at hb'
        have hlt' := Array.all_eq_true'.1 hb' e he
        simp only [hb, Bool.not_true, Bool.false_or, decide_eq_true_eq] at hlt'
        have := h3 e.on hlt'
        have hs : e.on < listed.size := by omega
        simpa [hs] using this
      rw [hr] at hmem
      cases hmem
    subst hnil
    exact hQ E O R hS a w ha hw
  intro fuel
  induction fuel with
  | zero =>
    intro π listed E O R a w hf hsz hl _ _ _ hS ha hw
    have hnil : π = [] := List.eq_nil_of_length_eq_zero (by omega)
    subst hnil
    refine ⟨?_, hQ E O R hS a w ha hw⟩
    apply List.eq_nil_iff_forall_not_mem.2
    intro i hi
    obtain ⟨h1, o, h2, _⟩ := mem_ready.1 hi
    obtain ⟨k, hk⟩ := (hl i (Array.getElem?_eq_some_iff.1 h2).1).1 h1
    cases hk
  | succ fuel ih =>
    intro π listed E O R a w hf hsz hl hnd hcl hp hS ha hw
    refine ⟨fun hr => ?_, fun i hi => ?_⟩
    · -- nothing may come up
      refine hnone π listed E O R a w hsz hl hr hS (fun j k hj => ?_) ha hw
      -- an index of π is one of the region's
      have : ∀ (π : List (Nat × Kd)), pairsOk ops π = true → 2 ≤ π.length → ∀ j k, (j, k) ∈ π → j < ops.size := by
        intro π hp h2 j k hj
        obtain ⟨A, B, rfl⟩ := List.append_of_mem hj
        cases A with
        | nil =>
          cases B with
          | nil => simp at h2
          | cons y B =>
            simp only [List.nil_append, pairsOk, Bool.and_eq_true, List.all_eq_true] at hp
            have := hp.1 y List.mem_cons_self
            obtain ⟨y1, y2⟩ := y
            dsimp only at this
            cases hj' : ops[j]? with
            | none => rw [hj'] at this; simp at this
            | some o => exact (Array.getElem?_eq_some_iff.1 hj').1
        | cons x A =>
          obtain ⟨x1, x2⟩ := x
          obtain ⟨g, _⟩ := pairsOk_mid ((x1, x2) :: A) B hp
          obtain ⟨p, q, _, hq, _⟩ := g x1 x2 List.mem_cons_self
          exact (Array.getElem?_eq_some_iff.1 hq).1
      by_cases h2 : 2 ≤ π.length
      · exact this π hp h2 j k hj
      · cases π with
        | nil => cases hj
        | cons x π =>
          have : π = [] := List.eq_nil_of_length_eq_zero (by simp only [List.length_cons] at h2; omega)
          subst this
          simp only [List.mem_singleton] at hj
          subst hj
          obtain ⟨o, ho, _⟩ := hS
          exact (Array.getElem?_eq_some_iff.1 ho).1
    · obtain ⟨h1, o, h2, h3⟩ := mem_ready.1 hi
      have hlt := (Array.getElem?_eq_some_iff.1 h2).1
      obtain ⟨k, hk⟩ := (hl i hlt).1 h1
      obtain ⟨A, B, rfl⟩ := List.append_of_mem hk
      obtain ⟨g1, g2⟩ := pairsOk_mid A B hp
      have hnot : ∀ j kj, (j, kj) ∈ A → listed.getD j false = false := fun j kj hj => by
        obtain ⟨p, q, hp', _⟩ := g1 j kj hj
        have := (hl j (Array.getElem?_eq_some_iff.1 hp').1).2 ⟨kj, List.mem_append.2 (.inl hj)⟩
        exact getDb this
      have hsw : ∀ j kj, (j, kj) ∈ A → ∃ p, ops[j]? = some p ∧ swapOk ops kj k p o = true := fun j kj hj => by
        obtain ⟨p, q, hp', hq', h⟩ := g1 j kj hj
        obtain rfl : o = q := Option.some.inj (h2.symm.trans hq')
        rcases h with h | h
        · have := reach_listed hcl ops.size [i] j (fun j' hj' o' ho' e he hb => by
            simp only [List.mem_singleton] at hj'
            subst hj'
            obtain rfl : o = o' := Option.some.inj (h2.symm.trans ho')
            exact h3 e he hb) h
          rw [hnot j kj hj] at this
          cases this
        · exact ⟨p, hp', h⟩
      have hfront := SW.front hK h2 A B E O R hsw hS
      obtain ⟨o', ho', hst⟩ := hfront
      obtain rfl : o = o' := Option.some.inj (h2.symm.trans ho')
      have hi' : i < listed.size := by omega
      refine Stp.wpOp (ops := ops) h2 hst (fun E' O' R' hS' a' w' ha' hw' => ?_) ha hw
      refine ih (A ++ B) _ E' O' R' a' w' (by simp only [List.length_append, List.length_cons] at hf ⊢; omega) (by simpa using hsz) (fun j hj => ?_) ?_ (fun j oj hoj hlj e he hb => ?_) g2 hS' ha' hw'
      · rw [getD_set hi']
        have hndi : ∀ k', (i, k') ∉ A ++ B := by
          intro k' hk'
          simp only [List.map_append, List.map_cons] at hnd
          rw [List.nodup_append] at hnd
          obtain ⟨n1, n2, n3⟩ := hnd
          rcases List.mem_append.1 hk' with hk' | hk'
          · exact n3 i (List.mem_map_of_mem (f := (·.1)) hk') i List.mem_cons_self rfl
          · exact (List.nodup_cons.1 n2).1 (List.mem_map_of_mem (f := (·.1)) hk')
        by_cases hij : i = j
        · subst hij
          rw [if_pos rfl]
          exact ⟨fun h => by (cases h), fun ⟨k', hk'⟩ => absurd hk' (hndi k')⟩
        · rw [if_neg hij, hl j hj]
          constructor
          · rintro ⟨k', hk'⟩
            refine ⟨k', ?_⟩
            rcases List.mem_append.1 hk' with hk' | hk'
            · exact List.mem_append.2 (.inl hk')
            · rcases List.mem_cons.1 hk' with hk' | hk'
              · cases hk'; exact absurd rfl hij
              · exact List.mem_append.2 (.inr hk')
          · rintro ⟨k', hk'⟩
            refine ⟨k', ?_⟩
            rcases List.mem_append.1 hk' with hk' | hk'
            · exact List.mem_append.2 (.inl hk')
            · exact List.mem_append.2 (.inr (List.mem_cons_of_mem _ hk'))
      · simp only [List.map_append, List.map_cons] at hnd ⊢
        exact hnd.sublist (List.Sublist.append_left (List.sublist_cons_self _ _) _)
      · rw [getD_set hi'] at hlj ⊢
        split at hlj
        · rename_i hij
          subst hij
          obtain rfl : o = oj := Option.some.inj (h2.symm.trans hoj)
          rw [h3 e he hb]
          split <;> rfl
        · rw [hcl j oj hoj hlj e he hb]
          split <;> rfl
/-- **A region that draws its order, walked in the order π: S turns, R is only read.** -/
theorem V.drawR {id : Nat} {l : List Oper} {Q : Exit → Act → World → Prop} (π : List (Nat × Kd)) (T : Tab) (S R : List Ent) (hm : P.follows .mixedOrders = true) (hok : (permOk l.length π && pairsOk l.toArray π && backOk l.toArray) = true) (hO : ∀ w, Hp w0 O w → Hp w0 (S ++ R) w)
    (h : SW P n w0 l.toArray T (fun E S R => VE n w0 (S ++ R) E Q .normal) π E S R) : V P n w0 O E (.region id l.toArray true) Q := by
  intro a w ha hw
  simp only [Bool.and_eq_true] at hok
  obtain ⟨⟨h1, h2⟩, h3⟩ := hok
  obtain ⟨n1, n2⟩ := permOk_nodup h1
  refine wp_region_any hm ?_
  have hlen : π.length = l.toArray.size := by
    simp only [permOk, Bool.and_eq_true, decide_eq_true_eq] at h1
    simpa using h1.1.2
  refine any_of_walk (K := fun E S R => VE n w0 (S ++ R) E Q .normal) (fun E E' O O' R hE hO h a w ha hw => h a w (ha.mono fun t u ht => by rw [hE]; exact ht) (hp_nil (frame hO) w hw)) (fun _ _ _ h => h) h3 _ π _ E S R a _ (by omega) (by simp) (fun j hj => ?_) n1 (fun j o _ hj => ?_) h2 h ha ((hO _ hw).ext (below_drew _ _))
  · simp only [List.size_toArray] at hj
    exact ⟨fun _ => n2 j hj, fun _ => by simp [hj]⟩
  · rw [getD_replicate_false'] at hj
    cases hj
where
  getD_replicate_false' {m j : Nat} : (Array.replicate m false).getD j false = false := by
    rcases Nat.lt_or_ge j m with h | h
    · simp [h]
    · simp [h]
section
variable {o : Oper} {i d : Nat} {π : List (Nat × Kd)} {K : Env → List Ent → List Ent → Prop}
theorem SW.q {u : Value} (ho : ops[i]? = some o) (hg : Wants ops E o) (hd : o.dst = some d) (hdn : d < n) (hy : YQ P w0 (O ++ R) E o u) (h : SW P n w0 ops T K π ((d, u) :: E) O R) : SW P n w0 ops T K ((i, 0) :: π) E O R :=
  ⟨o, ho, by rw [Stp, if_neg (by decide), if_neg (by decide)]; exact ⟨_, _, _, ⟨()⟩, .quiet hg.guard hy, dok hd hdn, fun _ => by rw [hd]; exact h⟩⟩
theorem SW.p {u : Value} (ho : ops[i]? = some o) (hg : Wants ops E o) (hd : o.dst = some d) (hdn : d < n) (hy : YQ P w0 R E o u) (h : SW P n w0 ops T K π ((d, u) :: E) O R) : SW P n w0 ops T K ((i, 5) :: π) E O R :=
  ⟨o, ho, by rw [Stp, if_neg (by decide), if_neg (by decide)]; exact ⟨_, _, _, ⟨()⟩, .quietR hg.guard hy, dok hd hdn, fun _ => by rw [hd]; exact h⟩⟩
theorem SW.r {u : Value} (ho : ops[i]? = some o) (hg : Wants ops E o) (hd : o.dst = some d) (hdn : d < n) (hy : YR P E o u) (h : SW P n w0 ops T K π ((d, u) :: E) O R) : SW P n w0 ops T K ((i, 5) :: π) E O R := SW.p ho hg hd hdn hy.q h
theorem SW.new {X : Type} [hX : Nonempty X] {u : X → Value} {N : X → List Ent} (ho : ops[i]? = some o) (hg : Wants ops E o) (hd : o.dst = some d) (hdn : d < n) (hy : YN P w0 (O ++ R) E o u N) (h : ∀ x, SW P n w0 ops T K π ((d, u x) :: E) (N x ++ O) R) : SW P n w0 ops T K ((i, 1) :: π) E O R :=
  ⟨o, ho, by rw [Stp, if_neg (by decide), if_neg (by decide)]; exact ⟨_, _, _, hX, .make hg.guard hy, dok hd hdn, fun x => by rw [hd]; exact h x⟩⟩
theorem SW.new1 {X : Type} [Nonempty X] {u : X → Value} {N : X → Ent} (ho : ops[i]? = some o) (hg : Wants ops E o) (hd : o.dst = some d) (hdn : d < n) (hy : YN P w0 (O ++ R) E o u (fun x => [N x])) (h : ∀ x, SW P n w0 ops T K π ((d, u x) :: E) (N x :: O) R) : SW P n w0 ops T K ((i, 1) :: π) E O R := SW.new ho hg hd hdn hy h
theorem SW.a {u : Nat → Value} {e : Nat → Ent} (ho : ops[i]? = some o) (hg : o.guard = none) (hd : o.dst = some d) (hdn : d < n) (hT : T.get i = (u, e)) (hy : ∀ w0, YN P w0 [] E o u (fun b => [e b])) (h : ∀ b, SW P n w0 ops T K π ((d, u b) :: E) (e b :: O) R) : SW P n w0 ops T K ((i, 2) :: π) E O R :=
  ⟨o, ho, by
    rw [Stp, if_pos rfl, hT]
    exact ⟨hg, dok hd hdn, YA.of hy, fun b => by rw [hd]; exact h b⟩⟩
theorem SW.s {X : Type} [hX : Nonempty X] {u : X → Value} {O' : X → List Ent} (ho : ops[i]? = some o) (hg : Wants ops E o) (hd : o.dst = none) (hy : YC P w0 (O ++ R) E o u (fun x => O' x ++ R)) (h : ∀ x, SW P n w0 ops T K π E (O' x) R) : SW P n w0 ops T K ((i, 3) :: π) E O R :=
  ⟨o, ho, by rw [Stp, if_neg (by decide), if_neg (by decide)]; exact ⟨_, _, _, hX, .turn hg.guard hy, (fun d' h' => by rw [hd] at h'; cases h'), fun x => by rw [hd]; exact h x⟩⟩
theorem SW.no {k : Kd} {j t : Nat} {b b' : Bool} (ho : ops[i]? = some o) (hk : k ≠ 2 ∧ k ≠ 4) (hg : o.guard = some (j, b)) (hj : (ops[j]?).bind (·.dst) = some t) (hb : E.get t = some (.bool b')) (hne : (b' == b) = false) (hd : o.dst = some d) (hdn : d < n)
    (h : SW P n w0 ops T K π ((d, undef) :: E) O R) : SW P n w0 ops T K ((i, k) :: π) E O R :=
  ⟨o, ho, by
    rw [Stp, if_neg hk.1, if_neg hk.2]
    refine ⟨_, _, _, ⟨()⟩, .skip (hne ▸ Guard.some hg hj hb), dok hd hdn, fun _ => by rw [hd]; exact h⟩⟩
theorem SW.split (hK : Lax3 w0 K) (t : Nat) (b : Bool) (hb : E.get t = some (.bool b)) (ht : b = true → SW P n w0 ops T K π ((t, .bool true) :: E) O R) (hf : b = false → SW P n w0 ops T K π ((t, .bool false) :: E) O R) : SW P n w0 ops T K π E O R := by
  cases b with
  | true => exact SW.lax hK π _ _ _ _ _ (fun s => (Env.get_shadow t _ E hb s).symm) (fun _ _ h => h) (ht rfl)
  | false => exact SW.lax hK π _ _ _ _ _ (fun s => (Env.get_shadow t _ E hb s).symm) (fun _ _ h => h) (hf rfl)
theorem eqO {O' : List Ent} {S : Act → World → Prop} (h : O = O') (hk : VX n w0 O' E S) : VX n w0 O E S := h ▸ hk
theorem lax_ve {Q : Exit → Act → World → Prop} : Lax3 w0 (fun E S R => VE n w0 (S ++ R) E Q .normal) := fun _ _ _ _ _ hE hO h a w ha hw => h a w (ha.mono fun t u ht => by rw [hE]; exact ht) (hp_nil (frame hO) w hw)
theorem UpdF.app {X : Type} {S R : List Ent} {e : Ent} {f : X → Ent} {S' : X → List Ent} (h : UpdF S e f S') : UpdF (S ++ R) e f (fun x => S' x ++ R) := by
  induction h with
  | here => exact UpdF.here
  | there _ ih => exact UpdF.there ih
  | thereS _ ih =>
    rename_i S1 O1 _ _ _
    have := UpdF.thereS (S := S1) ih
    simpa only [List.append_assoc] using this
theorem SW.t {X : Type} [hX : Nonempty X] {u : X → Value} {O' : X → List Ent} (ho : ops[i]? = some o) (hg : Wants ops E o) (hd : o.dst = none) (hy : YC P w0 (O ++ R) E o u O') (h : ∀ x, SW P n w0 ops T K π E (O' x) []) : SW P n w0 ops T K ((i, 4) :: π) E O R :=
  ⟨o, ho, by rw [Stp, if_neg (by decide), if_pos rfl]; exact ⟨_, _, _, hX, hg.guard, hy, (fun d' h' => by rw [hd] at h'; cases h'), fun x => by rw [hd]; exact h x⟩⟩
theorem SW.done (h : K E O R) : SW P n w0 ops T K [] E O R := h
end
end
end Dr
theorem Hp.pick {w0 w : World} {O M F : List Ent} (hw : Hp w0 O w) (h : Pick O M F) : Hp w0 M w := (hw.perm' h.perm).sub (List.sublist_append_right _ _)
theorem Hp.pickS {w0 w : World} {O M F : List Ent} (hw : Hp w0 O w) (h : Pick O M F) : Hp w0 (M ++ F) w := (hw.perm' h.perm).perm' List.perm_append_comm
end Go.Proofs.Ytfkblhlkeglilaa

namespace Go.Proofs.Ytfkblhlkeglilaa
open Go.RowKit
section
variable {P : Program} {E : Env} {o : Oper}
end
theorem in_t {n lo hi : Int} (h : lo ≤ n) : icmp .leq n hi = decide (lo ≤ n ∧ n ≤ hi) := by
  rw [Bool.eq_iff_iff, decide_eq_true_eq]
  constructor
  · intro h; have := ic_leq h; omega
  · rintro ⟨_, h⟩; exact decide_eq_true h
theorem in_f {n lo hi : Int} (h : n < lo) : false = decide (lo ≤ n ∧ n ≤ hi) := by
  symm; rw [decide_eq_false_iff_not]; omega
theorem can_f0 : Can .f32 0 := ⟨by decide, by decide⟩
end Go.Proofs.Ytfkblhlkeglilaa

namespace Go.Proofs.Ytfkblhlkeglilaa
theorem rootFrom_lt (n : Nat) : ∀ (todo root : Nat), Ieee.Datum.rootFrom n todo root < root + 2 ^ todo
  | 0, root => by simp [Ieee.Datum.rootFrom]
  | todo + 1, root => by
    have h1 := rootFrom_lt n todo (root + 1 <<< todo)
    have h2 := rootFrom_lt n todo root
    simp only [Ieee.Datum.rootFrom]
    rw [Nat.shiftLeft_eq, Nat.one_mul] at h1 ⊢
    rw [Nat.pow_succ]
    split <;> omega
theorem fover_sqrt (y : Nat) : fover .f64 .f32 (fsqrt (up y)) = false := by
  have hq : fover .f64 .f32 (qn .f64) = false := by decide
  cases hd : FloatKind.f32.decode y with
  | nan s f =>
    have hn : fnan .f32 y = true := by unfold fnan; rw [hd]; rfl
    rw [up_nan hn]
    decide
  | infinity s =>
    have hu : up y = Ieee.double.word s Ieee.double.infRung := by
      unfold up fconv; rw [if_neg (by decide), hd]; rfl
    rw [hu]
    cases s <;> decide
  | number s m e =>
    obtain ⟨g1, g2, g3⟩ := read32 hd
    have hu : up y = FloatKind.f64.encode (.number s m e) := by
      unfold up fconv; rw [if_neg (by decide), hd]
    have hml : m.log2 ≤ 23 := by
      by_cases h0 : m = 0
      · subst h0; decide
      · have := (Nat.log2_lt h0).2 g1
        omega
    obtain ⟨m', e', k1, k2⟩ := encode_small s (m := m) (e := e) (t := 1149) (by omega) (by decide)
    rw [← hu] at k1
    obtain ⟨b1, b2, b3, _⟩ := decode_double_bound k1
    have k1' : Ieee.double.read (up y) = .number s m' e' := k1
    unfold fsqrt Ieee.Format.sqrt
    rw [k1']
    simp only [Ieee.Datum.root]
    split
    · rename_i h0
      subst h0
      obtain ⟨m2, e2, k3, k4⟩ := encode_small s (m := 0) (e := e') (t := 0) (by have : (0 : Nat).log2 = 0 := by decide
                                                                                omega) (by decide)
      exact fover_small k3 (by omega)
    · rename_i h0
      split
      · exact hq
      · simp only [Option.map_some, Option.getD_some]
        generalize hmore : 2 * (Ieee.double.fractionBits + 2) - m'.log2 + ((e' - ((2 * (Ieee.double.fractionBits + 2) - m'.log2 : Nat) : Int)) % 2).toNat = more
        have hn : (m' <<< more).log2 = m'.log2 + more := by rw [shl_eq, log2_mul_pow h0]
        have hr := rootFrom_lt (m' <<< more) ((m' <<< more).log2 / 2 + 1) 0
        generalize Ieee.Datum.rootFrom (m' <<< more) ((m' <<< more).log2 / 2 + 1) 0 = whole at hr ⊢
        rw [hn, Nat.zero_add] at hr
        generalize hb : (whole * whole != m' <<< more).toNat = bit
        have hb1 : bit ≤ 1 := by rw [← hb]; cases (whole * whole != m' <<< more) <;> decide
        have hlog : (2 * whole + bit).log2 ≤ (m'.log2 + more) / 2 + 1 := by
          by_cases hz : 2 * whole + bit = 0
          · rw [hz]; have : (0 : Nat).log2 = 0 := by decide
            omega
          · have : 2 * whole + bit < 2 ^ ((m'.log2 + more) / 2 + 2) := by
              rw [Nat.pow_succ]; omega
            have := (Nat.log2_lt hz).2 this
            omega
        obtain ⟨m2, e2, k3, k4⟩ := encode_small false (m := 2 * whole + bit) (e := (e' - (more : Int)) / 2 - 1) (t := 1090) (by omega) (by decide)
        exact fover_small k3 (by omega)
def sqrt32 (x : Nat) : Nat := fconv .f64 .f32 (fsqrt (fconv .f32 .f64 x))
end Go.Proofs.Ytfkblhlkeglilaa

namespace Go.Proofs.Ytfkblhlkeglilaa
open Go.RowKit
abbrev V3 := Nat × Nat × Nat
def z3 : V3 := (0, 0, 0)
def vcs (v : V3) : List Value := [.float .f32 v.1, .float .f32 v.2.1, .float .f32 v.2.2]
def vv (v : V3) : Value := .agg #[.float .f32 v.1, .float .f32 v.2.1, .float .f32 v.2.2]
def vl : List V3 → List Value
  | [] => []
  | v :: vs => .float .f32 v.1 :: .float .f32 v.2.1 :: .float .f32 v.2.2 :: vl vs
theorem vl_length : ∀ vs : List V3, (vl vs).length = vs.length * 3
  | [] => rfl
  | v :: vs => by simp only [vl, List.length_cons, vl_length vs]; omega
theorem vl_scal : ∀ vs : List V3, (vl vs).all scal = true
  | [] => rfl
  | v :: vs => by simp only [vl, List.all_cons, vl_scal vs, scal, Bool.and_self]
theorem vl_append : ∀ us vs : List V3, vl us ++ vl vs = vl (us ++ vs)
  | [], vs => rfl
  | u :: us, vs => by simp only [vl, List.cons_append, vl_append us vs]
theorem vl_snoc (us : List V3) (v : V3) : vl us ++ [.float .f32 v.1, .float .f32 v.2.1, .float .f32 v.2.2] = vl (us ++ [v]) := vl_append us [v]
theorem vl_take : ∀ (vs : List V3) (k : Nat), k < vs.length → ((vl vs).drop (k * 3)).take 3 = vcs (vs.getD k z3)
  | [], _, h => by simp at h
  | v :: vs, 0, _ => rfl
  | v :: vs, k + 1, h => by
    have ih := vl_take vs k (by simpa using h)
    rw [show (k + 1) * 3 = k * 3 + 1 + 1 + 1 by omega]
    simpa [vl, List.getD] using ih
section
variable {P : Program} {n : Nat} {w0 : World} {O : List Ent} {E : Env} {o : Oper}
theorem yq_loadV {t : TypeId} {x : Operand} {a : Option Addr} {k : Nat} {vs : List V3} {fs : Array Field} (ho : o.op = .load t x) (ht : P.underlying t = some (.struct fs)) (hz : (P.info? t).map (·.size) = some 3) (hx : E.opd x = some (.pointer (some (adr a (k * 3))))) (hs : Sees w0 O a (vl vs)) (hk : k < vs.length) :
    YQ P w0 O E o (vv (vs.getD k z3)) :=
  yq_loadS (cs := vcs (vs.getD k z3)) ho ht hz hx hs (vl_take vs k hk) rfl rfl
end
def add3 (a b : V3) : V3 := (fop .add .f32 a.1 b.1, fop .add .f32 a.2.1 b.2.1, fop .add .f32 a.2.2 b.2.2)
def sub3 (a b : V3) : V3 := (fop .sub .f32 a.1 b.1, fop .sub .f32 a.2.1 b.2.1, fop .sub .f32 a.2.2 b.2.2)
def scale3 (a : V3) (k : Nat) : V3 := (fop .mul .f32 a.1 k, fop .mul .f32 a.2.1 k, fop .mul .f32 a.2.2 k)
def inner3 (a b : V3) : Nat := fop .add .f32 (fop .add .f32 (fop .mul .f32 a.1 b.1) (fop .mul .f32 a.2.1 b.2.1)) (fop .mul .f32 a.2.2 b.2.2)
def cross3 (a b : V3) : V3 := (fop .sub .f32 (fop .mul .f32 a.2.1 b.2.2) (fop .mul .f32 a.2.2 b.2.1), fop .sub .f32 (fop .mul .f32 a.2.2 b.1) (fop .mul .f32 a.1 b.2.2), fop .sub .f32 (fop .mul .f32 a.1 b.2.1) (fop .mul .f32 a.2.1 b.1))
def long3 (a : V3) : Nat := sqrt32 (inner3 a a)
def fin3 (a : V3) : Bool := fin a.1 && fin a.2.1 && fin a.2.2
def Can3 (a : V3) : Prop := Can .f32 a.1 ∧ Can .f32 a.2.1 ∧ Can .f32 a.2.2
theorem can_add3 (a b : V3) : Can3 (add3 a b) := ⟨can_fop _ _ _ _, can_fop _ _ _ _, can_fop _ _ _ _⟩
theorem can_z3 : Can3 z3 := ⟨can_f0, can_f0, can_f0⟩
theorem fin3_t {a : V3} (h1 : fin a.1 = true) (h2 : fin a.2.1 = true) : fin a.2.2 = fin3 a := by unfold fin3; rw [h1, h2]; rfl
theorem fin3_f1 {a : V3} (h1 : fin a.1 = false) : false = fin3 a := by unfold fin3; rw [h1]; rfl
theorem fin3_f2 {a : V3} (h1 : fin a.1 = true) (h2 : fin a.2.1 = false) : false = fin3 a := by unfold fin3; rw [h1, h2]; rfl
def segX (a b p : V3) : Nat := fop .mul .f32 (long3 (sub3 p a)) (long3 (sub3 p b))
def segD (a b p : V3) : Nat := fop .mul .f32 (segX a b p) (fop .add .f32 (segX a b p) (inner3 (sub3 p a) (sub3 p b)))
def segQ (a b p : V3) : Nat := fop .quo .f32 (fop .add .f32 (long3 (sub3 p a)) (long3 (sub3 p b))) (segD a b p)
def segF (a b p : V3) : V3 := if fcmp .gtr .f32 (segD a b p) 0 && fin (segQ a b p) then scale3 (cross3 (sub3 p a) (sub3 p b)) (segQ a b p) else z3
theorem segF_no1 {a b p : V3} (h : fcmp .gtr .f32 (segD a b p) 0 = false) : segF a b p = z3 := by unfold segF; rw [h]; rfl
theorem segF_no2 {a b p : V3} (h : fcmp .gtr .f32 (segD a b p) 0 = true) (h2 : fin (segQ a b p) = false) : segF a b p = z3 := by unfold segF; rw [h, h2]; rfl
theorem segF_yes {a b p : V3} (h : fcmp .gtr .f32 (segD a b p) 0 = true) (h2 : fin (segQ a b p) = true) : segF a b p = scale3 (cross3 (sub3 p a) (sub3 p b)) (segQ a b p) := by unfold segF; rw [h, h2]; rfl
end Go.Proofs.Ytfkblhlkeglilaa

namespace Go.Proofs.Ytfkblhlkeglilaa
open Go.RowKit
abbrev Wr := List V3 × Bool × Nat
def zw : Wr := ([], false, 0)
def wcs (p : Option Addr × Nat) (w : Wr) : List Value := [.slice p.1 w.1.length p.2, .bool w.2.1, .float .f32 w.2.2]
def whdF (f : Nat → Option Addr × Nat) : Nat → List Wr → List Value
  | _, [] => []
  | i, w :: ws => .slice (f i).1 w.1.length (f i).2 :: .bool w.2.1 :: .float .f32 w.2.2 :: whdF f (i + 1) ws
def whd (f : Nat → Option Addr × Nat) (ws : List Wr) : List Value := whdF f 0 ws
theorem whdF_length (f : Nat → Option Addr × Nat) : ∀ (ws : List Wr) (i : Nat), (whdF f i ws).length = ws.length * 3
  | [], _ => rfl
  | w :: ws, i => by simp only [whdF, List.length_cons, whdF_length f ws]; omega
theorem whd_length (f : Nat → Option Addr × Nat) (ws : List Wr) : (whd f ws).length = ws.length * 3 := whdF_length f ws 0
theorem whdF_scal (f : Nat → Option Addr × Nat) : ∀ (ws : List Wr) (i : Nat), (whdF f i ws).all scal = true
  | [], _ => rfl
  | w :: ws, i => by simp only [whdF, List.all_cons, whdF_scal f ws, scal, Bool.and_self]
theorem whd_scal (f : Nat → Option Addr × Nat) (ws : List Wr) : (whd f ws).all scal = true := whdF_scal f ws 0
theorem whdF_take (f : Nat → Option Addr × Nat) : ∀ (ws : List Wr) (i k : Nat), k < ws.length → ((whdF f i ws).drop (k * 3)).take 3 = wcs (f (i + k)) (ws.getD k zw)
  | [], _, _, h => by simp at h
  | w :: ws, i, 0, _ => rfl
  | w :: ws, i, k + 1, h => by
    have ih := whdF_take f ws (i + 1) k (by simpa using h)
    rw [show (k + 1) * 3 = k * 3 + 1 + 1 + 1 by omega, show i + (k + 1) = i + 1 + k by omega]
    simpa [whdF, List.getD] using ih
theorem whd_take {f : Nat → Option Addr × Nat} {ws : List Wr} {k : Nat} (h : k < ws.length) : ((whd f ws).drop (k * 3)).take 3 = wcs (f k) (ws.getD k zw) := by
  have := whdF_take f ws 0 k h
  rwa [Nat.zero_add] at this
theorem take_get {us cs : List Value} {k j : Nat} (h : (us.drop k).take 3 = cs) (hj : j < 3) : us[k + j]? = cs[j]? := by
  subst h
  rw [List.getElem?_take, if_pos hj, List.getElem?_drop]
theorem whd_get0 {f : Nat → Option Addr × Nat} {ws : List Wr} {k : Nat} (h : k < ws.length) : (whd f ws)[k * 3]? = some (.slice (f k).1 (ws.getD k zw).1.length (f k).2) := take_get (j := 0) (whd_take h) (by decide)
def wrents (t : TypeId) (f : Nat → Option Addr × Nat) (ws : List Wr) : List Ent := (List.range ws.length).map fun i => ⟨(f i).1, vl (ws.getD i zw).1, (f i).2 * 3, t⟩
theorem wrents_mem {t : TypeId} {f : Nat → Option Addr × Nat} {ws : List Wr} {i : Nat} (h : i < ws.length) : (⟨(f i).1, vl (ws.getD i zw).1, (f i).2 * 3, t⟩ : Ent) ∈ wrents t f ws := by
  unfold wrents
  exact List.mem_map.2 ⟨i, by simpa using h, rfl⟩
/-- Each wire's points lie where its header says. -/
def WRws (w : World) (f : Nat → Option Addr × Nat) (ws : List Wr) : Prop := ∀ i, i < ws.length → Cl w (f i).1 (vl (ws.getD i zw).1)
theorem WRws.below {w w' : World} {f : Nat → Option Addr × Nat} {ws : List Wr} (h : WRws w f ws) (hb : Below w.heap.size w w') : WRws w' f ws := fun i hi => (h i hi).below hb
theorem WRws.root {w0 w : World} {O : List Ent} {f : Nat → Option Addr × Nat} {ws : List Wr} (h : WRws w0 f ws) (hw : Hp w0 O w) : WRws w f ws := h.below hw.below
inductive WRowsIn : List Ent → TypeId → (Nat → Option Addr × Nat) → List Wr → Prop
  | here {t : TypeId} {f : Nat → Option Addr × Nat} {ws : List Wr} {O : List Ent} : WRowsIn (wrents t f ws ++ O) t f ws
  | last {t : TypeId} {f : Nat → Option Addr × Nat} {ws : List Wr} : WRowsIn (wrents t f ws) t f ws
  | there {t : TypeId} {f : Nat → Option Addr × Nat} {ws : List Wr} {e : Ent} {O : List Ent} : WRowsIn O t f ws → WRowsIn (e :: O) t f ws
  | thereS {t : TypeId} {f : Nat → Option Addr × Nat} {ws : List Wr} {S O : List Ent} : WRowsIn O t f ws → WRowsIn (S ++ O) t f ws
theorem WRowsIn.mem {O : List Ent} {t : TypeId} {f : Nat → Option Addr × Nat} {ws : List Wr} (h : WRowsIn O t f ws) : ∀ i, i < ws.length → (⟨(f i).1, vl (ws.getD i zw).1, (f i).2 * 3, t⟩ : Ent) ∈ O := by
  induction h with
  | here => exact fun i hi => List.mem_append_left _ (wrents_mem hi)
  | last => exact fun i hi => wrents_mem hi
  | there _ ih => exact fun i hi => List.mem_cons_of_mem _ (ih i hi)
  | thereS _ ih => exact fun i hi => List.mem_append_right _ (ih i hi)
theorem wtake_snoc {ws : List Wr} {k : Nat} (h : k < ws.length) : ws.take k ++ [ws.getD k zw] = ws.take (k + 1) := by
  rw [List.take_succ_eq_append_getElem h]; simp [h]
theorem vmem {vs : List V3} {k : Nat} (h : k < vs.length) : vs.getD k z3 ∈ vs := by simp [h]
section
variable {P : Program} {n : Nat} {w0 : World} {O : List Ent} {E : Env} {o : Oper}
theorem yq_loadW {t : TypeId} {x : Operand} {a : Option Addr} {k : Nat} {f : Nat → Option Addr × Nat} {ws : List Wr} {fs : Array Field} (ho : o.op = .load t x) (ht : P.underlying t = some (.struct fs)) (hz : (P.info? t).map (·.size) = some 3) (hx : E.opd x = some (.pointer (some (adr a (k * 3))))) (hs : Sees w0 O a (whd f ws)) (hk : k < ws.length) :
    YQ P w0 O E o (.agg #[.slice (f k).1 (ws.getD k zw).1.length (f k).2, .bool (ws.getD k zw).2.1, .float .f32 (ws.getD k zw).2.2]) :=
  yq_loadS (cs := wcs (f k) (ws.getD k zw)) ho ht hz hx hs (whd_take hk) rfl rfl
end
def wsum (ws : List Wr) (k : Nat) : Nat := ((ws.take k).map fun w => w.1.length).sum
def wbulk (ws : List Wr) : Nat := ws.length + wsum ws ws.length
theorem wsum_succ {ws : List Wr} {k : Nat} (h : k < ws.length) : wsum ws (k + 1) = wsum ws k + (ws.getD k zw).1.length := by
  unfold wsum
  rw [← wtake_snoc h]
  simp
theorem wsum_mono (ws : List Wr) : ∀ (k m : Nat), k ≤ m → m ≤ ws.length → wsum ws k ≤ wsum ws m
  | k, 0, h, _ => by rw [show k = 0 by omega]; exact Nat.le_refl _
  | k, m + 1, h, hm => by
    by_cases e : k = m + 1
    · rw [e]; exact Nat.le_refl _
    · rw [wsum_succ (by omega)]
      have := wsum_mono ws k m (by omega) (by omega)
      omega
theorem wbulk_row {ws : List Wr} {k : Nat} (h : k < ws.length) : (ws.getD k zw).1.length + ws.length ≤ wbulk ws := by
  unfold wbulk
  have h1 := wsum_mono ws (k + 1) ws.length (by omega) (Nat.le_refl _)
  rw [wsum_succ h] at h1
  omega
def wireOk (w : Wr) : Bool := decide (2 ≤ w.1.length ∧ w.1.length ≤ 48) && w.1.all fin3 && fin w.2.2
def wiresOk (ws : List Wr) : Bool := decide (ws.length ≤ 8) && ws.all wireOk
section
variable {ps : List V3} {cl : Bool} {cur : Nat}
theorem wire_no1 (h : ¬ (2 ≤ ps.length ∧ ps.length ≤ 48)) : false = wireOk (ps, cl, cur) := by unfold wireOk; rw [decide_eq_false h]; rfl
theorem wire_no2 (h : ps.all fin3 = false) : false = wireOk (ps, cl, cur) := by unfold wireOk; rw [h, Bool.and_false]; rfl
theorem wire_yes (h : 2 ≤ ps.length ∧ ps.length ≤ 48) (h2 : ps.all fin3 = true) : fin cur = wireOk (ps, cl, cur) := by unfold wireOk; rw [decide_eq_true h, h2]; rfl
theorem wire_is {w : Wr} (h : wireOk w = true) : 2 ≤ w.1.length ∧ w.1.length ≤ 48 ∧ w.1.all fin3 = true ∧ fin w.2.2 = true := by
  unfold wireOk at h
  simp only [Bool.and_eq_true, decide_eq_true_eq] at h
  exact ⟨h.1.1.1, h.1.1.2, h.1.2, h.2⟩
end
theorem vall_getD {p : V3 → Bool} {vs : List V3} : vs.all p = true ↔ ∀ k, k < vs.length → p (vs.getD k z3) = true := by
  rw [List.all_eq_true]
  constructor
  · intro h k hk
    exact h _ (vmem hk)
  · intro h x hx
    obtain ⟨k, hk, rfl⟩ := List.getElem_of_mem hx
    have := h k hk
    simpa [List.getD, hk] using this
theorem wmem {ws : List Wr} {k : Nat} (h : k < ws.length) : ws.getD k zw ∈ ws := by simp [h]
theorem wall_getD {p : Wr → Bool} {ws : List Wr} : ws.all p = true ↔ ∀ k, k < ws.length → p (ws.getD k zw) = true := by
  rw [List.all_eq_true]
  constructor
  · intro h k hk
    exact h _ (wmem hk)
  · intro h x hx
    obtain ⟨k, hk, rfl⟩ := List.getElem_of_mem hx
    have := h k hk
    simpa [List.getD, hk] using this
theorem vall_idx (p : V3 → Bool) (vs : List V3) : (!decide (0 ≤ idxI (fun k => !p (vs.getD k z3)) vs.length)) = vs.all p := by
  rw [idxI_any]
  rw [Bool.eq_iff_iff, vall_getD]
  simp only [Bool.not_eq_true', List.any_eq_false, List.mem_range, Bool.not_eq_false]
theorem wall_idx (p : Wr → Bool) (ws : List Wr) : (!decide (0 ≤ idxI (fun k => !p (ws.getD k zw)) ws.length)) = ws.all p := by
  rw [idxI_any]
  rw [Bool.eq_iff_iff, wall_getD]
  simp only [Bool.not_eq_true', List.any_eq_false, List.mem_range, Bool.not_eq_false]
def segN (w : Wr) : Nat := if w.2.1 then w.1.length else w.1.length - 1
def segA (w : Wr) (i : Nat) : V3 := w.1.getD i z3
def segB (w : Wr) (i : Nat) : V3 := w.1.getD ((i + 1) % w.1.length) z3
def sumW (w : Wr) (p : V3) : Nat → V3
  | 0 => z3
  | i + 1 => add3 (sumW w p i) (segF (segA w i) (segB w i) p)
def wireF (w : Wr) (p : V3) : V3 := scale3 (sumW w p (segN w)) w.2.2
def sumA (ws : List Wr) (p s0 : V3) : Nat → V3
  | 0 => s0
  | i + 1 => add3 (sumA ws p s0 i) (wireF (ws.getD i zw) p)
/-- The field, as the program makes it. -/
def fieldI (ws : List Wr) (p : V3) : V3 := sumA ws p z3 ws.length
/-- The field, as the reference makes it. -/
def fieldS (ws : List Wr) (p : V3) : V3 := sumA ws p (if fin3 p then z3 else sub3 p p) ws.length
end Go.Proofs.Ytfkblhlkeglilaa
