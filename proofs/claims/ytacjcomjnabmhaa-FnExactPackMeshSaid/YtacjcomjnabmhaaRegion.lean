/- Regions that draw their order: a walk in ONE order serves every order, if operations that are not ordered do not meet. -/
import Derived.Test.YtacjcomjnabmhaaMake
namespace Go.Proofs.Ytacjcomjnabmhaa
open Go.RowKit

/-- How an operation is taken: 0 quiet; 1 it makes something new; 2 it makes something new whatever is there; 3 it turns what the call owns. -/
abbrev Kd := Nat

section
variable {P : Program} {n : Nat} {w0 : World} {O : List Ent} {E : Env} {ops : Array Oper}

theorem YQ.weaken {E' : Env} {O' : List Ent} {o : Oper} {u : Value} (h : YQ P w0 O E o u) (hE : ∀ x ∈ o.op.operands, E'.opd x = E.opd x) (hO : ∀ w, Hp w0 O' w → Hp w0 O w) : YQ P w0 O' E' o u :=
  fun ρ w hρ hw => h ρ w (fun x hx u hu => hρ x hx u (by rw [hE x hx]; exact hu)) (hO w hw)

/-- A new variable: what it holds. -/
def aent (P : Program) (o : Oper) (b : Nat) : Ent :=
  match o.op with
  | .alloc e => match (P.info? e).bind (·.zero) with
    | some z => ⟨some ⟨b, 0, none⟩, z.cells.toList.map cn, (z.cells.toList.map cn).length, e⟩
    | none => ⟨none, [], 0, e⟩
  | _ => ⟨none, [], 0, 0⟩
/-- A new variable is made, whatever is there. -/
def AOk (P : Program) (n : Nat) (o : Oper) : Prop := o.guard = none ∧ (∃ e z, o.op = .alloc e ∧ (P.info? e).bind (·.zero) = some z) ∧ ∃ d, o.dst = some d ∧ d < n
def aptr (b : Nat) : Value := .pointer (some (adr (some ⟨b, 0, none⟩) 0))

/-- Is the guard met, in E? -/
inductive Guard (ops : Array Oper) (E : Env) (o : Oper) : Bool → Prop
  | none : o.guard = .none → Guard ops E o true
  | some {j t : Nat} {b b' : Bool} : o.guard = .some (j, b) → (ops[j]?).bind (·.dst) = .some t → E.get t = .some (.bool b') → Guard ops E o (b' == b)
  | undef {j t : Nat} {b : Bool} : o.guard = .some (j, b) → (ops[j]?).bind (·.dst) = .some t → E.get t = .some undef → Guard ops E o false
theorem cn_undef {v : Value} (h : cn v = undef) : v = undef := by
  cases v <;> simp [cn, cn1, cn0, undef] at h ⊢
  exact h
theorem yielded_undef {a : Act} {j t : Nat} (ha : Models n E a) (hj : (ops[j]?).bind (·.dst) = some t) (hb : E.get t = some undef) : yielded ops a.tmps j = none := by
  obtain ⟨v, hv, hu⟩ := ha.get t _ hb
  have := cn_undef hu
  subst this
  simp [yielded, hj, hv, undef]

theorem Guard.wanted {o : Oper} {g : Bool} (h : Guard ops E o g) {a : Act} (ha : Models n E a) : Region.wanted o (yielded ops a.tmps) = g := by
  cases h with
  | none h => simp [Region.wanted, h]
  | some h1 h2 h3 =>
    rename_i j t b b'
    simp only [Region.wanted, h1, yielded_of ha h2 h3]
    cases b <;> cases b' <;> rfl
  | undef h1 h2 h3 => simp [Region.wanted, h1, yielded_undef ha h2 h3]

def putE (E : Env) (d : Option Nat) (u : Value) : Env := match d with | some d => (d, u) :: E | none => E
/-- What an operation does: a value and what is owned then, for some x. -/
inductive Eff (P : Program) (w0 : World) (ops : Array Oper) : Kd → Oper → Env → List Ent → (X : Type) → (X → Value) → (X → List Ent) → Prop
  | skip {k : Kd} {o : Oper} {E : Env} {O : List Ent} : Guard ops E o false → Eff P w0 ops k o E O Unit (fun _ => undef) (fun _ => O)
  | quiet {o : Oper} {E : Env} {O : List Ent} {u : Value} : Guard ops E o true → YQ P w0 O E o u → Eff P w0 ops 0 o E O Unit (fun _ => u) (fun _ => O)
  | make {o : Oper} {E : Env} {O : List Ent} {X : Type} {u : X → Value} {N : X → List Ent} : Guard ops E o true → YN P w0 O E o u N → Eff P w0 ops 1 o E O X u (fun x => N x ++ O)
  | turn {o : Oper} {E : Env} {O : List Ent} {X : Type} {u : X → Value} {O' : X → List Ent} : Guard ops E o true → YC P w0 O E o u O' → Eff P w0 ops 3 o E O X u O'
def DOk (n : Nat) (o : Oper) : Prop := ∀ d, o.dst = some d → d < n

/-- One operation, and K behind it. -/
def Stp (P : Program) (n : Nat) (w0 : World) (ops : Array Oper) (k : Kd) (o : Oper) (E : Env) (O : List Ent) (K : Env → List Ent → Prop) : Prop :=
  if k = 2 then AOk P n o ∧ ∀ b, K (putE E o.dst (aptr b)) (aent P o b :: O)
  else ∃ (X : Type) (u : X → Value) (O' : X → List Ent), Eff P w0 ops k o E O X u O' ∧ DOk n o ∧ ∀ x, K (putE E o.dst (u x)) (O' x)

/-- The walk: the operations of π in this order. -/
def SW (P : Program) (n : Nat) (w0 : World) (ops : Array Oper) (K : Env → List Ent → Prop) : List (Nat × Kd) → Env → List Ent → Prop
  | [], E, O => K E O
  | (i, k) :: π, E, O => ∃ o, ops[i]? = some o ∧ Stp P n w0 ops k o E O (SW P n w0 ops K π)

/-- K does not look at the order of what is known. -/
def Lax (w0 : World) (K : Env → List Ent → Prop) : Prop :=
  ∀ E E' O O', (∀ t, E'.get t = E.get t) → (∀ F w, Hp w0 (F ++ O') w → Hp w0 (F ++ O) w) → K E O → K E' O'

theorem Guard.same {E' : Env} {o : Oper} {g : Bool} (h : Guard ops E o g) (hE : ∀ t, (∃ j b, o.guard = .some (j, b) ∧ (ops[j]?).bind (·.dst) = .some t) → E'.get t = E.get t) : Guard ops E' o g := by
  cases h with
  | none h => exact .none h
  | some h1 h2 h3 => exact .some h1 h2 (by rw [hE _ ⟨_, _, h1, h2⟩]; exact h3)
  | undef h1 h2 h3 => exact .undef h1 h2 (by rw [hE _ ⟨_, _, h1, h2⟩]; exact h3)

theorem opd_same {E' : Env} (h : ∀ t, E'.get t = E.get t) (x : Operand) : E'.opd x = E.opd x := by
  cases x <;> simp [Env.opd, h]

theorem YN.weaken {E' : Env} {O' : List Ent} {o : Oper} {X : Type} {u : X → Value} {N : X → List Ent} (h : YN P w0 O E o u N) (hE : ∀ x ∈ o.op.operands, E'.opd x = E.opd x) (hO : ∀ w, Hp w0 O' w → Hp w0 O w) : YN P w0 O' E' o u N :=
  fun ρ w hρ hw => h ρ w (fun x hx u hu => hρ x hx u (by rw [hE x hx]; exact hu)) (hO w hw)

theorem get_cons_congr {E E' : Env} (h : ∀ t, E'.get t = E.get t) (d : Nat) (u : Value) : ∀ t, Env.get ((d, u) :: E') t = Env.get ((d, u) :: E) t := by
  intro t; simp only [Env.get, h]

theorem Hp.perm {O' N : List Ent} (h : ∀ F w, Hp w0 (F ++ O') w → Hp w0 (F ++ O) w) : ∀ F w, Hp w0 (F ++ (N ++ O')) w → Hp w0 (F ++ (N ++ O)) w := by
  intro F w hw
  rw [← List.append_assoc] at hw ⊢
  exact h _ w hw

theorem put_congr {E E' : Env} (h : ∀ t, E'.get t = E.get t) (d : Option Nat) (u : Value) : ∀ t, (putE E' d u).get t = (putE E d u).get t := by
  cases d with
  | none => exact h
  | some d => exact get_cons_congr h d u
theorem hp_nil {O' : List Ent} (h : ∀ F w, Hp w0 (F ++ O') w → Hp w0 (F ++ O) w) : ∀ w, Hp w0 O' w → Hp w0 O w := fun w hw => by simpa using h [] w (by simpa using hw)

/-- The effect, seen from what says the same. -/
theorem Eff.lax {E' : Env} {O' : List Ent} {k : Kd} {o : Oper} {X : Type} {u : X → Value} {R : X → List Ent} (hE : ∀ t, E'.get t = E.get t) (hO : ∀ F w, Hp w0 (F ++ O') w → Hp w0 (F ++ O) w) (h : Eff P w0 ops k o E O X u R) :
    ∃ R', Eff P w0 ops k o E' O' X u R' ∧ ∀ x F w, Hp w0 (F ++ R' x) w → Hp w0 (F ++ R x) w := by
  have hop := opd_same hE
  cases h with
  | skip hg => exact ⟨_, .skip (hg.same fun t _ => hE t), fun _ => hO⟩
  | quiet hg h => exact ⟨_, .quiet (hg.same fun t _ => hE t) (h.weaken (fun x _ => hop x) (hp_nil hO)), fun _ => hO⟩
  | make hg h => exact ⟨_, .make (hg.same fun t _ => hE t) (h.weaken (fun x _ => hop x) (hp_nil hO)), fun x => Hp.perm hO⟩
  | turn hg h => exact ⟨_, .turn (hg.same fun t _ => hE t) (fun ρ w F hρ hw => h ρ w F (fun x hx u hu => hρ x hx u (by rw [hop x]; exact hu)) (hO F w hw)), fun _ _ _ h => h⟩

theorem Stp.lax {k : Kd} {o : Oper} {K : Env → List Ent → Prop} (hK : Lax w0 K) : Lax w0 (fun E O => Stp P n w0 ops k o E O K) := by
  intro E E' O O' hE hO h
  simp only [Stp] at h ⊢
  split at h
  · rename_i hk
    rw [if_pos hk]
    exact ⟨h.1, fun b => hK _ _ _ _ (put_congr hE _ _) (fun F w => by simpa using Hp.perm (N := [aent P o b]) hO F w) (h.2 b)⟩
  · rename_i hk
    rw [if_neg hk]
    obtain ⟨X, u, R, h1, h2, h3⟩ := h
    obtain ⟨R', h4, h5⟩ := h1.lax hE hO
    exact ⟨X, u, R', h4, h2, fun x => hK _ _ _ _ (put_congr hE _ _) (h5 x) (h3 x)⟩

theorem SW.lax {K : Env → List Ent → Prop} (hK : Lax w0 K) : ∀ π, Lax w0 (SW P n w0 ops K π)
  | [] => hK
  | (i, k) :: π => by
    intro E E' O O' hE hO ⟨o, ho, h⟩
    exact ⟨o, ho, Stp.lax (SW.lax hK π) _ _ _ _ hE hO h⟩

/-! ### two operations change places -/
/-- what o looks at, in temporaries -/
def looks (ops : Array Oper) (o : Oper) (t : Nat) : Bool := (o.looksAt ops).contains t

theorem operand_ne {o : Oper} {d : Nat} (h : (o.looksAt ops).contains d = false) : ∀ x ∈ o.op.operands, x ≠ .tmp d := by
  intro x hx he
  subst he
  have : d ∈ o.looksAt ops := by
    unfold Oper.looksAt
    refine List.mem_append.2 (.inl (List.mem_filterMap.2 ⟨.tmp d, by simpa using hx, rfl⟩))
  simp at h
  exact h this
theorem guard_ne {o : Oper} {d : Nat} (h : (o.looksAt ops).contains d = false) : ∀ t, (∃ j b, o.guard = .some (j, b) ∧ (ops[j]?).bind (·.dst) = .some t) → t ≠ d := by
  rintro t ⟨j, b, h1, h2⟩ rfl
  have : t ∈ o.looksAt ops := by
    unfold Oper.looksAt
    refine List.mem_append.2 (.inr ?_)
    rw [h1]
    simp [h2]
  simp at h
  exact h this
theorem get_other {t d : Nat} (h : t ≠ d) (u : Value) : Env.get ((d, u) :: E) t = E.get t := by
  simp only [Env.get]
  cases hb : Nat.beq d t with
  | true => exact absurd (Nat.eq_of_beq_eq_true hb).symm h
  | false => rfl
theorem opd_other {o : Oper} {d : Nat} (h : (o.looksAt ops).contains d = false) (u : Value) : ∀ x ∈ o.op.operands, Env.opd ((d, u) :: E) x = E.opd x := by
  intro x hx
  have := operand_ne h x hx
  cases x with
  | tmp t => exact get_other (fun e => this (by rw [e])) u
  | _ => rfl
theorem guard_other {o : Oper} {d : Nat} (h : (o.looksAt ops).contains d = false) {u : Value} {g : Bool} (hg : Guard ops ((d, u) :: E) o g) : Guard ops E o g :=
  hg.same fun t ht => (get_other (guard_ne h t ht) u).symm
theorem guard_other' {o : Oper} {d : Nat} (h : (o.looksAt ops).contains d = false) {u : Value} {g : Bool} (hg : Guard ops E o g) : Guard ops ((d, u) :: E) o g :=
  hg.same fun t ht => get_other (guard_ne h t ht) u
theorem get_swap {d d' : Nat} (h : d ≠ d') (u u' : Value) : ∀ t, Env.get ((d, u) :: (d', u') :: E) t = Env.get ((d', u') :: (d, u) :: E) t := by
  intro t
  simp only [Env.get]
  cases hb : Nat.beq d t <;> cases hb' : Nat.beq d' t <;> try rfl
  exact absurd ((Nat.eq_of_beq_eq_true hb).trans (Nat.eq_of_beq_eq_true hb').symm) h

/-- p is walked before q; may q be carried out before p? -/
def swapOk (ops : Array Oper) (kp kq : Kd) (p q : Oper) : Bool :=
  (match p.dst with | some d => !(q.looksAt ops).contains d && q.dst != some d | none => true) &&
  (match q.dst with | some d => !(p.looksAt ops).contains d | none => true) &&
  ((kp == 0 && (kq == 0 || kq == 1 || kq == 2)) || kq == 2)

theorem swap_hp {N M : List Ent} (F : List Ent) (w : World) (h : Hp w0 (F ++ (N ++ (M ++ O))) w) : Hp w0 (F ++ (M ++ (N ++ O))) w := by
  have hp : (F ++ (N ++ (M ++ O))).Perm (F ++ (M ++ (N ++ O))) := by
    refine List.Perm.append_left F ?_
    rw [← List.append_assoc, ← List.append_assoc]
    exact List.Perm.append_right O List.perm_append_comm
  exact ⟨h.below, fun e he => h.ents e (hp.mem_iff.2 he), h.apart.perm hp (fun h => apart_symm h)⟩

theorem sub_hp {N : List Ent} (w : World) (h : Hp w0 (N ++ O) w) : Hp w0 O w := h.sub (List.sublist_append_right N O)

theorem put_swap {p q : Oper} (h : ∀ d, p.dst = some d → q.dst ≠ some d) (u u' : Value) (E : Env) : ∀ t, (putE (putE E p.dst u) q.dst u').get t = (putE (putE E q.dst u') p.dst u).get t := by
  intro t
  cases hp : p.dst with
  | none => rfl
  | some d =>
    cases hq : q.dst with
    | none => rfl
    | some d' => exact get_swap (fun e => h d hp (by rw [hq, e])) u' u t

theorem opd_put {o : Oper} {d : Option Nat} (h : ∀ x, d = some x → (o.looksAt ops).contains x = false) (u : Value) : ∀ x ∈ o.op.operands, (putE E d u).opd x = E.opd x := by
  cases d with
  | none => intro x _; rfl
  | some d => exact opd_other (h d rfl) u
theorem guard_put {o : Oper} {d : Option Nat} (h : ∀ x, d = some x → (o.looksAt ops).contains x = false) {u : Value} {g : Bool} : Guard ops (putE E d u) o g ↔ Guard ops E o g := by
  cases d with
  | none => exact Iff.rfl
  | some d => exact ⟨guard_other (h d rfl), guard_other' (h d rfl)⟩

theorem Eff.put {k : Kd} {o : Oper} {d : Option Nat} {u : Value} {X : Type} {v : X → Value} {R : X → List Ent} (h : ∀ x, d = some x → (o.looksAt ops).contains x = false) :
    Eff P w0 ops k o (putE E d u) O X v R ↔ Eff P w0 ops k o E O X v R := by
  constructor
  · intro he
    cases he with
    | skip hg => exact .skip ((guard_put h).1 hg)
    | quiet hg hy => exact .quiet ((guard_put h).1 hg) (hy.weaken (fun x hx => (opd_put h u x hx).symm) fun _ h => h)
    | make hg hy => exact .make ((guard_put h).1 hg) (hy.weaken (fun x hx => (opd_put h u x hx).symm) fun _ h => h)
    | turn hg hy => exact .turn ((guard_put h).1 hg) (fun ρ w F hρ hw => hy ρ w F (fun x hx v hv => hρ x hx v (by rw [← opd_put h u x hx]; exact hv)) hw)
  · intro he
    cases he with
    | skip hg => exact .skip ((guard_put h).2 hg)
    | quiet hg hy => exact .quiet ((guard_put h).2 hg) (hy.weaken (fun x hx => opd_put h u x hx) fun _ h => h)
    | make hg hy => exact .make ((guard_put h).2 hg) (hy.weaken (fun x hx => opd_put h u x hx) fun _ h => h)
    | turn hg hy => exact .turn ((guard_put h).2 hg) (fun ρ w F hρ hw => hy ρ w F (fun x hx v hv => hρ x hx v (by rw [opd_put h u x hx]; exact hv)) hw)

/-- .. with one entry more -/
theorem Eff.beside {k : Kd} {o : Oper} {e : Ent} {X : Type} {v : X → Value} {R : X → List Ent} (he : Eff P w0 ops k o E O X v R) :
    ∃ R', Eff P w0 ops k o E (e :: O) X v R' ∧ ∀ x F w, Hp w0 (F ++ R' x) w → Hp w0 (F ++ (e :: R x)) w := by
  have hsub : ∀ w, Hp w0 (e :: O) w → Hp w0 O w := fun w h => h.sub (List.sublist_cons_self e O)
  cases he with
  | skip hg => exact ⟨_, .skip hg, fun _ _ _ h => h⟩
  | quiet hg hy => exact ⟨_, .quiet hg (hy.weaken (fun _ _ => rfl) hsub), fun _ _ _ h => h⟩
  | make hg hy =>
    exact ⟨_, .make hg (hy.weaken (fun _ _ => rfl) hsub), fun x F w h => swap_hp (N := _) (M := [e]) F w h⟩
  | turn hg hy =>
    refine ⟨fun x => e :: R x, .turn hg fun ρ w F hρ hw => ?_, fun _ _ _ h => h⟩
    have := hy ρ w (F ++ [e]) hρ (by simpa using hw)
    refine this.mono fun v w' ⟨x, h1, h2⟩ => ⟨x, h1, by simpa using h2⟩

theorem Stp.swap {kp kq : Kd} {p q : Oper} {K : Env → List Ent → Prop} (hK : Lax w0 K) (hs : swapOk ops kp kq p q = true) (hA : kq = 2 → AOk P n q)
    (h : Stp P n w0 ops kp p E O (fun E O => Stp P n w0 ops kq q E O K)) : Stp P n w0 ops kq q E O (fun E O => Stp P n w0 ops kp p E O K) := by
  simp only [swapOk, Bool.and_eq_true, Bool.or_eq_true, beq_iff_eq] at hs
  obtain ⟨⟨hs1, hs2⟩, hs3⟩ := hs
  have d1 : ∀ d, p.dst = some d → (q.looksAt ops).contains d = false := fun d hd => by rw [hd] at hs1; simpa using (Bool.and_eq_true_iff.1 hs1).1
  have d2 : ∀ d, p.dst = some d → q.dst ≠ some d := fun d hd => by rw [hd] at hs1; simpa using (Bool.and_eq_true_iff.1 hs1).2
  have d3 : ∀ d, q.dst = some d → (p.looksAt ops).contains d = false := fun d hd => by rw [hd] at hs2; simpa using hs2
  have hid : ∀ (O : List Ent) (F : List Ent) (w : World), Hp w0 (F ++ O) w → Hp w0 (F ++ O) w := fun _ _ _ h => h
  by_cases hq : kq = 2
  · -- the second makes a variable
    have hA' := hA hq
    subst hq
    simp only [Stp, if_true] at h ⊢
    refine ⟨hA', fun b => ?_⟩
    split at h
    · rename_i hp
      rw [if_pos hp]
      refine ⟨h.1, fun c => ?_⟩
      have h3 := (h.2 c).2 b
      refine hK _ _ _ _ (fun t => (put_swap d2 _ _ E t).symm) (fun F w hw => ?_) h3
      have := swap_hp (N := [aent P p c]) (M := [aent P q b]) (O := O) F w (by simpa using hw)
      simpa using this
    · rename_i hp
      rw [if_neg hp]
      obtain ⟨X, u, R, h1, h2, h3⟩ := h
      obtain ⟨R', h4, h5⟩ := h1.beside (e := aent P q b)
      refine ⟨X, u, R', (Eff.put d3).2 h4, h2, fun x => ?_⟩
      exact hK _ _ _ _ (fun t => (put_swap d2 _ _ E t).symm) (h5 x) ((h3 x).2 b)
  · have h0 : kp = 0 ∧ (kq = 0 ∨ kq = 1) := by
      rcases hs3 with ⟨h1, (h2 | h2) | h2⟩ | h2
      · exact ⟨h1, .inl h2⟩
      · exact ⟨h1, .inr h2⟩
      · exact absurd h2 hq
      · exact absurd h2 hq
    obtain ⟨rfl, hk⟩ := h0
    simp only [Stp, if_neg hq] at h ⊢
    rw [if_neg (by decide)] at h
    obtain ⟨X, u, R, h1, h2, h3⟩ := h
    -- the first is quiet, or does not come to its turn
    obtain ⟨u0, hu0, hp⟩ : ∃ u0, (∃ Y v S, Eff P w0 ops kq q (putE E p.dst u0) O Y v S ∧ DOk n q ∧ ∀ y, K (putE (putE E p.dst u0) q.dst (v y)) (S y)) ∧ ∀ E' O', (∀ x ∈ p.op.operands, E'.opd x = E.opd x) → (∀ g, Guard ops E p g → Guard ops E' p g) → (∀ w, Hp w0 O' w → Hp w0 O w) → Eff P w0 ops 0 p E' O' Unit (fun _ => u0) (fun _ => O') := by
      cases h1 with
      | skip hg => exact ⟨undef, h3 (), fun E' O' _ hg' _ => .skip (hg' _ hg)⟩
      | quiet hg hy => exact ⟨_, h3 (), fun E' O' hE hg' hO => .quiet (hg' _ hg) (hy.weaken hE hO)⟩
    obtain ⟨Y, v, S, g1, g2, g3⟩ := hu0
    have g1' := (Eff.put d1).1 g1
    refine ⟨Y, v, S, g1', g2, fun y => ?_⟩
    rw [if_neg (by decide)]
    have hsub : ∀ w, Hp w0 (S y) w → Hp w0 O w := by
      cases g1' with
      | skip _ => exact fun _ h => h
      | quiet _ _ => exact fun _ h => h
      | make _ _ => exact fun w h => sub_hp w h
      | turn _ _ => rcases hk with h | h <;> exact absurd h (by decide)
    exact ⟨Unit, fun _ => u0, fun _ => S y, hp _ _ (opd_put d3 _) (fun g hg => (guard_put d3).2 hg) hsub, h2, fun _ => hK _ _ _ _ (fun t => (put_swap d2 _ _ E t).symm) (hid _) (g3 y)⟩

/-! ### the order that is drawn -/
/-- o waits for what is at i, directly -/
def waits (o : Oper) (i : Nat) : Bool := o.after.any fun e => Region.binds .any e && e.on == i

/-- Of any two that are walked in this order the second waits for the first, directly, or they may change places. -/
def pairsOk (ops : Array Oper) : List (Nat × Kd) → Bool
  | [] => true
  | (i, k) :: π => (π.all fun (j, kj) => match ops[i]?, ops[j]? with
    | some p, some q => reach ops j i || swapOk ops k kj p q
    | _, _ => false) && pairsOk ops π
where
  /-- j waits for i, through others -/
  reach (ops : Array Oper) (j i : Nat) : Bool := go ops ops.size [j] i
  go (ops : Array Oper) : Nat → List Nat → Nat → Bool
    | 0, _, _ => false
    | f + 1, l, i =>
      let l' := l.flatMap fun j => match ops[j]? with | some o => (o.after.toList.filter (Region.binds .any)).map (·.on) | none => []
      l'.contains i || go ops f l' i

/-- every operation waits for earlier ones alone -/
def backOk (ops : Array Oper) : Bool := (List.range ops.size).all fun i => match ops[i]? with | some o => o.after.all fun e => !Region.binds .any e || e.on < i | none => false

theorem reach_listed {listed : Array Bool} (hcl : ∀ j o, ops[j]? = some o → listed.getD j false = true → ∀ e ∈ o.after, Region.binds .any e = true → listed.getD e.on false = true) :
    ∀ (f : Nat) (l : List Nat) (i : Nat), (∀ j ∈ l, ∀ o, ops[j]? = some o → ∀ e ∈ o.after, Region.binds .any e = true → listed.getD e.on false = true) → pairsOk.go ops f l i = true → listed.getD i false = true := by
  intro f
  induction f with
  | zero => intro l i _ h; simp [pairsOk.go] at h
  | succ f ih =>
    intro l i hl h
    simp only [pairsOk.go, Bool.or_eq_true] at h
    have hl' : ∀ j ∈ l.flatMap (fun j => match ops[j]? with | some o => (o.after.toList.filter (Region.binds .any)).map (·.on) | none => []), listed.getD j false = true := by
      intro j hj
      obtain ⟨m, hm, hjm⟩ := List.mem_flatMap.1 hj
      cases ho : ops[m]? with
      | none => rw [ho] at hjm; cases hjm
      | some o =>
        rw [ho] at hjm
        obtain ⟨e, he, rfl⟩ := List.mem_map.1 hjm
        obtain ⟨he1, he2⟩ := List.mem_filter.1 he
        exact hl m hm o ho e (Array.mem_toList_iff.1 he1) he2
    rcases h with h | h
    · exact hl' i (by simpa using h)
    · exact ih _ i (fun j hj o ho e he hb => hcl j o ho (hl' j hj) e he hb) h

theorem SW.front {K : Env → List Ent → Prop} (hK : Lax w0 K) {i : Nat} {k : Kd} {q : Oper} (hq : ops[i]? = some q) (hA : k = 2 → AOk P n q) : ∀ (A B : List (Nat × Kd)) (E : Env) (O : List Ent),
    (∀ j kj, (j, kj) ∈ A → ∃ p, ops[j]? = some p ∧ swapOk ops kj k p q = true) → SW P n w0 ops K (A ++ (i, k) :: B) E O → SW P n w0 ops K ((i, k) :: (A ++ B)) E O
  | [], _, _, _, _, h => h
  | (j, kj) :: A, B, E, O, hs, h => by
    obtain ⟨p, hp, h⟩ := h
    obtain ⟨p', hp', hsw⟩ := hs j kj List.mem_cons_self
    obtain rfl : p = p' := Option.some.inj (hp.symm.trans hp')
    have h2 : Stp P n w0 ops kj p E O (fun E O => Stp P n w0 ops k q E O (SW P n w0 ops K (A ++ B))) := by
      have ih := fun E O => SW.front hK hq hA A B E O (fun j kj hj => hs j kj (List.mem_cons_of_mem _ hj))
      have key : ∀ E O, SW P n w0 ops K (A ++ (i, k) :: B) E O → Stp P n w0 ops k q E O (SW P n w0 ops K (A ++ B)) := fun E O h => by
        obtain ⟨q', hq', h'⟩ := ih E O h
        obtain rfl : q = q' := Option.some.inj (hq.symm.trans hq')
        exact h'
      simp only [Stp] at h ⊢
      split at h
      · rename_i hk; rw [if_pos hk]; exact ⟨h.1, fun b => key _ _ (h.2 b)⟩
      · rename_i hk; rw [if_neg hk]
        obtain ⟨X, u, R, h1, h2, h3⟩ := h
        exact ⟨X, u, R, h1, h2, fun x => key _ _ (h3 x)⟩
    have h3 := Stp.swap (SW.lax hK (A ++ B)) hsw hA h2
    refine ⟨q, hq, ?_⟩
    simp only [Stp] at h3 ⊢
    split at h3
    · rename_i hk; rw [if_pos hk]; exact ⟨h3.1, fun b => ⟨p, hp, h3.2 b⟩⟩
    · rename_i hk; rw [if_neg hk]
      obtain ⟨X, u, R, h1, h2, h4⟩ := h3
      exact ⟨X, u, R, h1, h2, fun x => ⟨p, hp, h4 x⟩⟩

theorem models_put {a : Act} {o : Oper} {v u : Value} (ha : Models n E a) (hd : DOk n o) (hv : cn v = u) : Models n (putE E o.dst u) (a.put o.dst v) := by
  cases h : o.dst with
  | none => exact ha
  | some d => exact ha.put (hd d h) hv

theorem run_alloc_ent {o : Oper} (h : AOk P n o) (ρ : Operand → Value) (w : World) : ResOk P (fun v w' => ∃ b, cn v = aptr b ∧ Below w.heap.size w w' ∧ Ent.at w.heap.size w' (aent P o b)) ((execOp ρ o).run P w) := by
  obtain ⟨_, ⟨e, z, h1, h2⟩, _⟩ := h
  have hr : (execOp ρ o).run P w = .ok (.value (.pointer (some ⟨w.heap.size, 0, none⟩))) (w.alloc (.cells z.cells.toList.toArray e)) := by
    simp [execOp, h1, Instr.alloc, newVar, run_newRow, info_zero h2]
  rw [hr]
  refine ⟨w.heap.size, by simp [cn, cn1, cn0, adr, aptr], below_alloc _ _ _, ?_⟩
  simp only [aent, h1, h2]
  exact ent_new w _ _ e rfl

theorem Stp.wpOp {k : Kd} {o : Oper} {i : Nat} {Q : Exit → Act → World → Prop} {K : Env → List Ent → Prop} {R : Act → World → Prop} (ho : ops[i]? = some o) (h : Stp P n w0 ops k o E O K) (hR : ∀ E' O', K E' O' → VX n w0 O' E' R) {a : Act} {w : World} (ha : Models n E a) (hw : Hp w0 O w) : Go.wpOp P ops Q i R a w := by
  unfold Go.wpOp
  simp only [ho]
  simp only [Stp] at h
  split at h
  · obtain ⟨hA, h⟩ := h
    have hd : DOk n o := fun d hd => by obtain ⟨d', h1, h2⟩ := hA.2.2; rw [h1] at hd; cases hd; exact h2
    rw [if_pos (by simp [Region.wanted, hA.1])]
    refine .inl ?_
    unfold Oper.wp
    refine (run_alloc_ent hA a.eval w).upon fun v w' ⟨b, h1, h2, h3⟩ => ?_
    exact hR _ _ (h b) _ _ (models_put ha hd h1) (hw.new h2 h3)
  · obtain ⟨X, u, R', h1, hd, h3⟩ := h
    cases h1 with
    | skip hg =>
      rw [if_neg (by rw [hg.wanted ha]; decide)]
      exact hR _ _ (h3 ()) _ _ (models_put ha hd (by simp [undef, cn])) hw
    | quiet hg hy =>
      rw [if_pos (hg.wanted ha)]
      refine .inl ?_
      unfold Oper.wp
      refine (hy a.eval w (ha.ev _) hw).upon fun v w' ⟨h1, h2⟩ => ?_
      exact hR _ _ (h3 ()) _ _ (models_put ha hd h1) (hw.ext h2)
    | make hg hy =>
      rw [if_pos (hg.wanted ha)]
      refine .inl ?_
      unfold Oper.wp
      refine (hy a.eval w (ha.ev _) hw).upon fun v w' ⟨x, h1, h2, h4, h5⟩ => ?_
      exact hR _ _ (h3 x) _ _ (models_put ha hd h1) (hw.news h2 h4 h5)
    | turn hg hy =>
      rw [if_pos (hg.wanted ha)]
      refine .inl ?_
      unfold Oper.wp
      refine (hy a.eval w [] (ha.ev _) (by simpa using hw)).upon fun v w' ⟨x, h1, h2⟩ => ?_
      exact hR _ _ (h3 x) _ _ (models_put ha hd h1) (by simpa using h2)

theorem pairsOk_mid {i : Nat} {k : Kd} : ∀ (A B : List (Nat × Kd)), pairsOk ops (A ++ (i, k) :: B) = true →
    (∀ j kj, (j, kj) ∈ A → ∃ p q, ops[j]? = some p ∧ ops[i]? = some q ∧ (pairsOk.reach ops i j = true ∨ swapOk ops kj k p q = true)) ∧ pairsOk ops (A ++ B) = true
  | [], B, h => by
    simp only [List.nil_append, pairsOk, Bool.and_eq_true] at h
    exact ⟨fun _ _ h => by (cases h), h.2⟩
  | (j, kj) :: A, B, h => by
    simp only [List.cons_append, pairsOk, Bool.and_eq_true, List.all_eq_true] at h ⊢
    obtain ⟨h1, h2⟩ := h
    obtain ⟨g1, g2⟩ := pairsOk_mid A B h2
    refine ⟨fun j' kj' hj => ?_, fun x hx => h1 x ?_, g2⟩
    · rcases List.mem_cons.1 hj with hj | hj
      · cases hj
        have := h1 (i, k) (by simp)
        dsimp only at this
        cases hp : ops[j]? with
        | none => rw [hp] at this; simp at this
        | some p =>
          cases hq : ops[i]? with
          | none => rw [hp, hq] at this; simp at this
          | some q =>
            rw [hp, hq] at this
            exact ⟨p, q, rfl, rfl, by simpa using this⟩
      · exact g1 j' kj' hj
    · rcases List.mem_append.1 hx with hx | hx
      · exact List.mem_append.2 (.inl hx)
      · exact List.mem_append.2 (.inr (List.mem_cons_of_mem _ hx))

theorem getDb {listed : Array Bool} {i : Nat} (h : listed.getD i true = false) : listed.getD i false = false := by
  rcases Nat.lt_or_ge i listed.size with h' | h'
  · simp [h'] at h ⊢; exact h
  · simp [Array.getElem?_eq_none h'] at h

theorem getD_set {l : Array Bool} {i j : Nat} {d : Bool} (hi : i < l.size) : (l.setIfInBounds i true).getD j d = if i = j then true else l.getD j d := by
  by_cases h : i = j
  · subst h; simp [hi]
  · rw [if_neg h]
    simp only [Array.getD_eq_getD_getElem?, Array.getElem?_setIfInBounds_ne h]

theorem any_of_walk {Q : Exit → Act → World → Prop} {K : Env → List Ent → Prop} (hK : Lax w0 K) (hQ : ∀ E O, K E O → VX n w0 O E (Q .normal)) (hback : backOk ops = true) :
    ∀ (fuel : Nat) (π : List (Nat × Kd)) (listed : Array Bool) (E : Env) (O : List Ent) (a : Act) (w : World), π.length ≤ fuel → listed.size = ops.size → (∀ j, j < ops.size → (listed.getD j true = false ↔ ∃ k, (j, k) ∈ π)) → (π.map (·.1)).Nodup →
      (∀ j o, ops[j]? = some o → listed.getD j false = true → ∀ e ∈ o.after, Region.binds .any e = true → listed.getD e.on false = true) → pairsOk ops π = true → (∀ j o, (j, 2) ∈ π → ops[j]? = some o → AOk P n o) →
      SW P n w0 ops K π E O → Models n E a → Hp w0 O w → wpAny P .any ops Q fuel listed a w := by
  have hnone : ∀ (π : List (Nat × Kd)) (listed : Array Bool) (E : Env) (O : List Ent) (a : Act) (w : World), listed.size = ops.size → (∀ j, j < ops.size → (listed.getD j true = false ↔ ∃ k, (j, k) ∈ π)) → Region.ready .any ops listed = [] → SW P n w0 ops K π E O → (∀ j k, (j, k) ∈ π → j < ops.size) → Models n E a → Hp w0 O w → Q .normal a w := by
    intro π listed E O a w hsz hl hr hS hlt ha hw
    have hnil : π = [] := by
      apply Classical.byContradiction
      intro hne
      -- the least index that is not listed could come up
      have hex : ∃ j, j < ops.size ∧ listed.getD j true = false := by
        cases π with
        | nil => exact absurd rfl hne
        | cons x π => obtain ⟨j, k⟩ := x; exact ⟨j, hlt j k List.mem_cons_self, (hl j (hlt j k List.mem_cons_self)).2 ⟨k, List.mem_cons_self⟩⟩
      have hmin : ∀ m, (∃ j, j ≤ m ∧ j < ops.size ∧ listed.getD j true = false) → ∃ j, j < ops.size ∧ listed.getD j true = false ∧ ∀ i, i < j → listed.getD i true = true := by
        intro m
        induction m with
        | zero => rintro ⟨j, hj, h1, h2⟩; exact ⟨j, h1, h2, fun i hi => by omega⟩
        | succ m ih =>
          rintro ⟨j, hj, h1, h2⟩
          by_cases h : ∃ j, j ≤ m ∧ j < ops.size ∧ listed.getD j true = false
          · exact ih h
          · refine ⟨j, h1, h2, fun i hi => ?_⟩
            cases hi' : listed.getD i true with
            | true => rfl
            | false => exact absurd ⟨i, by omega, by omega, hi'⟩ h
      obtain ⟨j, hj⟩ := hex
      obtain ⟨j, h1, h2, h3⟩ := hmin j ⟨j, Nat.le_refl _, hj⟩
      have hmem : j ∈ Region.ready .any ops listed := by
        refine mem_ready.2 ⟨h2, ops[j], Array.getElem?_eq_getElem h1, fun e he hb => ?_⟩
        have hb' := List.all_eq_true.1 hback j (List.mem_range.2 h1)
        rw [Array.getElem?_eq_getElem h1] at hb'
        have hlt' := Array.all_eq_true'.1 hb' e he
        simp only [hb, Bool.not_true, Bool.false_or, decide_eq_true_eq] at hlt'
        have := h3 e.on hlt'
        have hs : e.on < listed.size := by omega
        simpa [hs] using this
      rw [hr] at hmem
      cases hmem
    subst hnil
    exact hQ E O hS a w ha hw
  intro fuel
  induction fuel with
  | zero =>
    intro π listed E O a w hf hsz hl _ _ _ _ hS ha hw
    have hnil : π = [] := List.eq_nil_of_length_eq_zero (by omega)
    subst hnil
    refine ⟨?_, hQ E O hS a w ha hw⟩
    apply List.eq_nil_iff_forall_not_mem.2
    intro i hi
    obtain ⟨h1, o, h2, _⟩ := mem_ready.1 hi
    obtain ⟨k, hk⟩ := (hl i (Array.getElem?_eq_some_iff.1 h2).1).1 h1
    cases hk
  | succ fuel ih =>
    intro π listed E O a w hf hsz hl hnd hcl hp hA hS ha hw
    have hltπ : ∀ (π : List (Nat × Kd)) (E : Env) (O : List Ent), pairsOk ops π = true → SW P n w0 ops K π E O → True := fun _ _ _ _ _ => trivial
    refine ⟨fun hr => ?_, fun i hi => ?_⟩
    · -- nothing may come up
      refine hnone π listed E O a w hsz hl hr hS (fun j k hj => ?_) ha hw
      -- an index of π is one of the region's
      have : ∀ (π : List (Nat × Kd)), pairsOk ops π = true → 2 ≤ π.length → ∀ j k, (j, k) ∈ π → j < ops.size := by
        intro π hp h2 j k hj
        obtain ⟨A, B, rfl⟩ := List.append_of_mem hj
        cases A with
        | nil =>
          cases B with
          | nil => simp at h2
          | cons y B =>
            simp only [List.nil_append, pairsOk, Bool.and_eq_true, List.all_eq_true] at hp
            have := hp.1 y List.mem_cons_self
            obtain ⟨y1, y2⟩ := y
            dsimp only at this
            cases hj' : ops[j]? with
            | none => rw [hj'] at this; simp at this
            | some o => exact (Array.getElem?_eq_some_iff.1 hj').1
        | cons x A =>
          obtain ⟨x1, x2⟩ := x
          obtain ⟨g, _⟩ := pairsOk_mid ((x1, x2) :: A) B hp
          obtain ⟨p, q, _, hq, _⟩ := g x1 x2 List.mem_cons_self
          exact (Array.getElem?_eq_some_iff.1 hq).1
      by_cases h2 : 2 ≤ π.length
      · exact this π hp h2 j k hj
      · cases π with
        | nil => cases hj
        | cons x π =>
          have : π = [] := List.eq_nil_of_length_eq_zero (by simp only [List.length_cons] at h2; omega)
          subst this
          simp only [List.mem_singleton] at hj
          subst hj
          obtain ⟨o, ho, _⟩ := hS
          exact (Array.getElem?_eq_some_iff.1 ho).1
    · obtain ⟨h1, o, h2, h3⟩ := mem_ready.1 hi
      have hlt := (Array.getElem?_eq_some_iff.1 h2).1
      obtain ⟨k, hk⟩ := (hl i hlt).1 h1
      obtain ⟨A, B, rfl⟩ := List.append_of_mem hk
      obtain ⟨g1, g2⟩ := pairsOk_mid A B hp
      have hnot : ∀ j kj, (j, kj) ∈ A → listed.getD j false = false := fun j kj hj => by
        obtain ⟨p, q, hp', _⟩ := g1 j kj hj
        have := (hl j (Array.getElem?_eq_some_iff.1 hp').1).2 ⟨kj, List.mem_append.2 (.inl hj)⟩
        exact getDb this
      have hsw : ∀ j kj, (j, kj) ∈ A → ∃ p, ops[j]? = some p ∧ swapOk ops kj k p o = true := fun j kj hj => by
        obtain ⟨p, q, hp', hq', h⟩ := g1 j kj hj
        obtain rfl : o = q := Option.some.inj (h2.symm.trans hq')
        rcases h with h | h
        · have := reach_listed hcl ops.size [i] j (fun j' hj' o' ho' e he hb => by
            simp only [List.mem_singleton] at hj'
            subst hj'
            obtain rfl : o = o' := Option.some.inj (h2.symm.trans ho')
            exact h3 e he hb) h
          rw [hnot j kj hj] at this
          cases this
        · exact ⟨p, hp', h⟩
      have hfront := SW.front hK h2 (fun hk2 => hA i o (by subst hk2; exact hk) h2) A B E O hsw hS
      obtain ⟨o', ho', hst⟩ := hfront
      obtain rfl : o = o' := Option.some.inj (h2.symm.trans ho')
      have hi' : i < listed.size := by omega
      refine Stp.wpOp (ops := ops) h2 hst (fun E' O' hS' a' w' ha' hw' => ?_) ha hw
      refine ih (A ++ B) _ E' O' a' w' (by simp only [List.length_append, List.length_cons] at hf ⊢; omega) (by simpa using hsz) (fun j hj => ?_) ?_ (fun j oj hoj hlj e he hb => ?_) g2 (fun j oj hj => hA j oj (by
        rcases List.mem_append.1 hj with hj | hj
        · exact List.mem_append.2 (.inl hj)
        · exact List.mem_append.2 (.inr (List.mem_cons_of_mem _ hj)))) hS' ha' hw'
      · rw [getD_set hi']
        have hndi : ∀ k', (i, k') ∉ A ++ B := by
          intro k' hk'
          simp only [List.map_append, List.map_cons] at hnd
          rw [List.nodup_append] at hnd
          obtain ⟨n1, n2, n3⟩ := hnd
          rcases List.mem_append.1 hk' with hk' | hk'
          · exact n3 i (List.mem_map_of_mem (f := (·.1)) hk') i List.mem_cons_self rfl
          · exact (List.nodup_cons.1 n2).1 (List.mem_map_of_mem (f := (·.1)) hk')
        by_cases hij : i = j
        · subst hij
          rw [if_pos rfl]
          exact ⟨fun h => by (cases h), fun ⟨k', hk'⟩ => absurd hk' (hndi k')⟩
        · rw [if_neg hij, hl j hj]
          constructor
          · rintro ⟨k', hk'⟩
            refine ⟨k', ?_⟩
            rcases List.mem_append.1 hk' with hk' | hk'
            · exact List.mem_append.2 (.inl hk')
            · rcases List.mem_cons.1 hk' with hk' | hk'
              · cases hk'; exact absurd rfl hij
              · exact List.mem_append.2 (.inr hk')
          · rintro ⟨k', hk'⟩
            refine ⟨k', ?_⟩
            rcases List.mem_append.1 hk' with hk' | hk'
            · exact List.mem_append.2 (.inl hk')
            · exact List.mem_append.2 (.inr (List.mem_cons_of_mem _ hk'))
      · simp only [List.map_append, List.map_cons] at hnd ⊢
        exact hnd.sublist (List.Sublist.append_left (List.sublist_cons_self _ _) _)
      · rw [getD_set hi'] at hlj ⊢
        split at hlj
        · rename_i hij
          subst hij
          obtain rfl : o = oj := Option.some.inj (h2.symm.trans hoj)
          rw [h3 e he hb]
          split <;> rfl
        · rw [hcl j oj hoj hlj e he hb]
          split <;> rfl

/-- The order in which the region is walked: each of its operations once. -/
def permOk (m : Nat) (π : List (Nat × Kd)) : Bool := (List.range m).all (fun i => (π.map (·.1)).contains i) && decide (π.length = m) && decide (π.map (·.1)).Nodup

theorem permOk_nodup {m : Nat} {π : List (Nat × Kd)} (h : permOk m π = true) : (π.map (·.1)).Nodup ∧ ∀ j, j < m → ∃ k, (j, k) ∈ π := by
  simp only [permOk, Bool.and_eq_true, List.all_eq_true, decide_eq_true_eq] at h
  have hmem : ∀ j, j < m → j ∈ π.map (·.1) := fun j hj => by simpa using h.1.1 j (List.mem_range.2 hj)
  refine ⟨h.2, fun j hj => ?_⟩
  obtain ⟨⟨j', k⟩, hk, rfl⟩ := List.mem_map.1 (hmem j hj)
  exact ⟨k, hk⟩

/-- **A region that draws its order, walked in the order π.** -/
theorem V.draw {id : Nat} {l : List Oper} {Q : Exit → Act → World → Prop} (π : List (Nat × Kd)) (hm : P.follows .mixedOrders = true) (hok : (permOk l.length π && pairsOk l.toArray π && backOk l.toArray) = true) (hA : ∀ j o, (j, 2) ∈ π → l[j]? = some o → AOk P n o)
    (h : SW P n w0 l.toArray (fun E O => VE n w0 O E Q .normal) π E O) : V P n w0 O E (.region id l.toArray true) Q := by
  intro a w ha hw
  simp only [Bool.and_eq_true] at hok
  obtain ⟨⟨h1, h2⟩, h3⟩ := hok
  obtain ⟨n1, n2⟩ := permOk_nodup h1
  refine wp_region_any hm ?_
  have hlen : π.length = l.toArray.size := by
    simp only [permOk, Bool.and_eq_true, decide_eq_true_eq] at h1
    simpa using h1.1.2
  refine any_of_walk (K := fun E O => VE n w0 O E Q .normal) (fun E E' O O' hE hO h a w ha hw => h a w (ha.mono fun t u ht => by rw [hE]; exact ht) (by simpa using hO [] w (by simpa using hw))) (fun _ _ h => h) h3 _ π _ E O a _ (by omega) (by simp) (fun j hj => ?_) n1 (fun j o _ hj => ?_) h2 (fun j o hj ho => hA j o hj (by simpa using ho)) h ha (hw.ext (below_drew _ _))
  · simp only [List.size_toArray] at hj
    exact ⟨fun _ => n2 j hj, fun _ => by simp [hj]⟩
  · rw [getD_replicate_false'] at hj
    cases hj
where
  getD_replicate_false' {m j : Nat} : (Array.replicate m false).getD j false = false := by
    rcases Nat.lt_or_ge j m with h | h
    · simp [h]
    · simp [h]

/-! ### steps of such a walk -/
section
variable {o : Oper} {i d : Nat} {π : List (Nat × Kd)} {K : Env → List Ent → Prop}
theorem Wants.guard (h : Wants ops E o) : Guard ops E o true := by
  rcases h with h | ⟨j, b, t, h1, h2, h3⟩
  · exact .none h
  · have := Guard.some (b' := b) h1 h2 h3
    simpa using this
theorem dok (hd : o.dst = some d) (hdn : d < n) : DOk n o := fun d' h => by rw [hd] at h; cases h; exact hdn
theorem SW.q {u : Value} (ho : ops[i]? = some o) (hg : Wants ops E o) (hd : o.dst = some d) (hdn : d < n) (hy : YQ P w0 O E o u) (h : SW P n w0 ops K π ((d, u) :: E) O) : SW P n w0 ops K ((i, 0) :: π) E O :=
  ⟨o, ho, by rw [Stp, if_neg (by decide)]; exact ⟨_, _, _, .quiet hg.guard hy, dok hd hdn, fun _ => by rw [hd]; exact h⟩⟩
theorem SW.r {u : Value} (ho : ops[i]? = some o) (hg : Wants ops E o) (hd : o.dst = some d) (hdn : d < n) (hy : YR P E o u) (h : SW P n w0 ops K π ((d, u) :: E) O) : SW P n w0 ops K ((i, 0) :: π) E O := SW.q ho hg hd hdn hy.q h
theorem SW.new {X : Type} {u : X → Value} {N : X → List Ent} (ho : ops[i]? = some o) (hg : Wants ops E o) (hd : o.dst = some d) (hdn : d < n) (hy : YN P w0 O E o u N) (h : ∀ x, SW P n w0 ops K π ((d, u x) :: E) (N x ++ O)) : SW P n w0 ops K ((i, 1) :: π) E O :=
  ⟨o, ho, by rw [Stp, if_neg (by decide)]; exact ⟨_, _, _, .make hg.guard hy, dok hd hdn, fun x => by rw [hd]; exact h x⟩⟩
theorem SW.new1 {X : Type} {u : X → Value} {N : X → Ent} (ho : ops[i]? = some o) (hg : Wants ops E o) (hd : o.dst = some d) (hdn : d < n) (hy : YN P w0 O E o u (fun x => [N x])) (h : ∀ x, SW P n w0 ops K π ((d, u x) :: E) (N x :: O)) : SW P n w0 ops K ((i, 1) :: π) E O := SW.new ho hg hd hdn hy h
theorem SW.a {e : TypeId} {z : Value} {cs : List Value} (ho : ops[i]? = some o) (hg : o.guard = none) (hop : o.op = .alloc e) (hz : (P.info? e).bind (·.zero) = some z) (hc : z.cells.toList.map cn = cs) (hd : o.dst = some d) (hdn : d < n)
    (h : ∀ b, SW P n w0 ops K π ((d, .pointer (some (adr (some ⟨b, 0, none⟩) 0))) :: E) (⟨some ⟨b, 0, none⟩, cs, cs.length, e⟩ :: O)) : SW P n w0 ops K ((i, 2) :: π) E O :=
  ⟨o, ho, by
    rw [Stp, if_pos rfl]
    refine ⟨⟨hg, ⟨e, z, hop, hz⟩, d, hd, hdn⟩, fun b => ?_⟩
    have := h b
    simp only [aent, hop, hz, hc, hd]
    exact this⟩
theorem SW.c {X : Type} {u : X → Value} {O' : X → List Ent} (ho : ops[i]? = some o) (hg : Wants ops E o) (hd : o.dst = some d) (hdn : d < n) (hy : YC P w0 O E o u O') (h : ∀ x, SW P n w0 ops K π ((d, u x) :: E) (O' x)) : SW P n w0 ops K ((i, 3) :: π) E O :=
  ⟨o, ho, by rw [Stp, if_neg (by decide)]; exact ⟨_, _, _, .turn hg.guard hy, dok hd hdn, fun x => by rw [hd]; exact h x⟩⟩
theorem SW.s {X : Type} {u : X → Value} {O' : X → List Ent} (ho : ops[i]? = some o) (hg : Wants ops E o) (hd : o.dst = none) (hy : YC P w0 O E o u O') (h : ∀ x, SW P n w0 ops K π E (O' x)) : SW P n w0 ops K ((i, 3) :: π) E O :=
  ⟨o, ho, by rw [Stp, if_neg (by decide)]; exact ⟨_, _, _, .turn hg.guard hy, (fun d h => by rw [hd] at h; cases h), fun x => by rw [hd]; exact h x⟩⟩
theorem SW.no {k : Kd} {j t : Nat} {b b' : Bool} (ho : ops[i]? = some o) (hk : k ≠ 2) (hg : o.guard = some (j, b)) (hj : (ops[j]?).bind (·.dst) = some t) (hb : E.get t = some (.bool b')) (hne : (b' == b) = false) (hd : o.dst = some d) (hdn : d < n)
    (h : SW P n w0 ops K π ((d, undef) :: E) O) : SW P n w0 ops K ((i, k) :: π) E O :=
  ⟨o, ho, by
    rw [Stp, if_neg hk]
    refine ⟨_, _, _, .skip (hne ▸ Guard.some hg hj hb), dok hd hdn, fun _ => by rw [hd]; exact h⟩⟩
theorem SW.noU {k : Kd} {j t : Nat} {b : Bool} (ho : ops[i]? = some o) (hk : k ≠ 2) (hg : o.guard = some (j, b)) (hj : (ops[j]?).bind (·.dst) = some t) (hb : E.get t = some undef) (hd : o.dst = some d) (hdn : d < n)
    (h : SW P n w0 ops K π ((d, undef) :: E) O) : SW P n w0 ops K ((i, k) :: π) E O :=
  ⟨o, ho, by
    rw [Stp, if_neg hk]
    refine ⟨_, _, _, .skip (Guard.undef hg hj hb), dok hd hdn, fun _ => by rw [hd]; exact h⟩⟩
theorem VL.noU {rest : List Oper} {Q : Exit → Act → World → Prop} {j t : Nat} {b : Bool} (hg : o.guard = some (j, b)) (hj : (ops[j]?).bind (·.dst) = some t) (hb : E.get t = some undef) (hd : o.dst = some d) (hdn : d < n)
    (h : VL P n w0 O ((d, undef) :: E) ops Q rest) : VL P n w0 O E ops Q (o :: rest) := by
  intro a w ha hw
  refine wpList_step fun K hK => ?_
  rw [if_neg (by simp [Region.wanted, hg, yielded_undef ha hj hb])]
  exact hK _ _ (h _ _ (by rw [hd]; exact ha.put hdn (by simp [undef, cn])) hw)
theorem SW.split (hK : Lax w0 K) (t : Nat) (b : Bool) (hb : E.get t = some (.bool b)) (ht : b = true → SW P n w0 ops K π ((t, .bool true) :: E) O) (hf : b = false → SW P n w0 ops K π ((t, .bool false) :: E) O) : SW P n w0 ops K π E O := by
  cases b with
  | true => exact SW.lax hK π _ _ _ _ (fun s => (Env.get_shadow t _ E hb s).symm) (fun _ _ h => h) (ht rfl)
  | false => exact SW.lax hK π _ _ _ _ (fun s => (Env.get_shadow t _ E hb s).symm) (fun _ _ h => h) (hf rfl)
theorem SW.done (h : K E O) : SW P n w0 ops K [] E O := h
theorem lax_ve {Q : Exit → Act → World → Prop} : Lax w0 (fun E O => VE n w0 O E Q .normal) := fun E E' O O' hE hO h a w ha hw => h a w (ha.mono fun t u ht => by rw [hE]; exact ht) (by simpa using hO [] w (by simpa using hw))
end
end
end Go.Proofs.Ytacjcomjnabmhaa
