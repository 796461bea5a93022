/- Core of a small framework: canonical values, environments, owned memory, the judgements of one operation and of code. No program is named here. -/
import Derived.WalkKit
import Derived.WalkLawsBesides
import Derived.Deep.Draws
import Derived.Deep.Cut
namespace Go.Proofs.Ytacjcomjnabmhaa
open Go.RowKit

/-! ### canonical values -/
def qn : FloatKind → Nat
  | .f32 => 0x7fc00000
  | .f64 => 0x7ff8000000000001
def fnan (k : FloatKind) (b : Nat) : Bool := (k.decode b).isNaN
def cb (k : FloatKind) (b : Nat) : Nat := if fnan k b then qn k else b
def cn0 : Value → Value
  | .float k b => .float k (cb k b)
  | .complex k a b => .complex k (cb k a) (cb k b)
  | v => v
def cn1 : Value → Value
  | .agg cs => .agg (cs.map cn0)
  | v => cn0 v
def cn : Value → Value
  | .tuple vs => .tuple (vs.map cn1)
  | v => cn1 v

theorem cn_int {v : Value} {k : IntKind} {n : Int} (h : cn v = .int k n) : v = .int k n := by
  cases v <;> simp [cn, cn1, cn0] at h ⊢ <;> exact h
theorem cn_bool {v : Value} {b : Bool} (h : cn v = .bool b) : v = .bool b := by
  cases v <;> simp [cn, cn1, cn0] at h ⊢ <;> exact h
theorem cn_string {v : Value} {s : ByteArray} (h : cn v = .string s) : v = .string s := by
  cases v <;> simp [cn, cn1, cn0] at h ⊢ <;> exact h
theorem cn_pointer {v : Value} {p : Option Addr} (h : cn v = .pointer p) : v = .pointer p := by
  cases v <;> simp [cn, cn1, cn0] at h ⊢ <;> exact h
theorem cn_slice {v : Value} {p : Option Addr} {n c : Nat} (h : cn v = .slice p n c) : v = .slice p n c := by
  cases v <;> simp [cn, cn1, cn0] at h ⊢ <;> exact h
theorem cn_map {v : Value} {p : Option Nat} (h : cn v = .map p) : v = .map p := by
  cases v <;> simp [cn, cn1, cn0] at h ⊢ <;> exact h
theorem cn_func {v : Value} {f : Fn} {a b : Array Value} (h : cn v = .func f a b) : v = .func f a b := by
  cases v <;> simp [cn, cn1, cn0] at h ⊢ <;> exact h
theorem cn_nilFunc {v : Value} (h : cn v = .nilFunc) : v = .nilFunc := by
  cases v <;> simp [cn, cn1, cn0] at h ⊢
theorem cn_iface {v : Value} {t : TypeId} {u : Value} (h : cn v = .iface t u) : v = .iface t u := by
  cases v <;> simp [cn, cn1, cn0] at h ⊢ <;> exact h
theorem cn_nilIface {v : Value} (h : cn v = .nilIface) : v = .nilIface := by
  cases v <;> simp [cn, cn1, cn0] at h ⊢
theorem cn_float {v : Value} {k : FloatKind} {x : Nat} (h : cn v = .float k x) : ∃ b, v = .float k b ∧ cb k b = x := by
  cases v <;> simp [cn, cn1, cn0] at h ⊢
  obtain ⟨rfl, h⟩ := h; exact ⟨_, ⟨rfl, rfl⟩, h⟩
theorem cn_complex {v : Value} {k : FloatKind} {x y : Nat} (h : cn v = .complex k x y) : ∃ a b, v = .complex k a b ∧ cb k a = x ∧ cb k b = y := by
  cases v <;> simp [cn, cn1, cn0] at h ⊢
  obtain ⟨rfl, h, h'⟩ := h; exact ⟨_, _, ⟨rfl, rfl, rfl⟩, h, h'⟩
theorem cn_agg {v : Value} {us : Array Value} (h : cn v = .agg us) : ∃ cs, v = .agg cs ∧ cs.map cn0 = us := by
  cases v <;> simp [cn, cn1, cn0] at h ⊢
  exact h
theorem cn_tuple {v : Value} {us : Array Value} (h : cn v = .tuple us) : ∃ cs, v = .tuple cs ∧ cs.map cn1 = us := by
  cases v <;> simp [cn, cn1, cn0] at h ⊢
  exact h

theorem width_pos (f : Ieee.Format) : 2 ^ f.width = 2 * f.signWeight := by
  unfold Ieee.Format.width Ieee.Format.signWeight
  rw [Nat.add_assoc, Nat.pow_add]
theorem read_mod (f : Ieee.Format) (b : Nat) : f.read (b % 2 ^ f.width) = f.read b := by
  have hs : 0 < f.signWeight := Nat.pow_pos (by decide)
  have h1 : b % 2 ^ f.width % f.signWeight = b % f.signWeight := by
    rw [width_pos, Nat.mod_mul_left_mod]
  have h2 : b % 2 ^ f.width / f.signWeight % 2 = b / f.signWeight % 2 := by
    rw [width_pos, Nat.mul_comm, Nat.mod_mul_right_div_self, Nat.mod_mod]
  unfold Ieee.Format.read
  simp only [h1, h2]
theorem fnan_mod (k : FloatKind) (b : Nat) : fnan k (b % 2 ^ k.format.width) = fnan k b := by
  unfold fnan FloatKind.decode; rw [read_mod]
theorem cb_idem (k : FloatKind) (b : Nat) : cb k (cb k b) = cb k b := by
  cases h : fnan k b
  · have h1 : cb k b = b := by simp [cb, h]
    rw [h1, h1]
  · have h1 : cb k b = qn k := by simp [cb, h]
    rw [h1]
    cases k <;> decide
theorem cn0_idem (v : Value) : cn0 (cn0 v) = cn0 v := by
  cases v <;> simp [cn0, cb_idem]
theorem cn_cn0 (v : Value) (h : ∀ cs, v ≠ .agg cs) (h' : ∀ cs, v ≠ .tuple cs) : cn v = cn0 v := by
  cases v <;> simp [cn, cn1] at h h' ⊢

/-! ### environments -/
abbrev Env := List (Nat × Value)
def Env.get : Env → Nat → Option Value
  | [], _ => none
  | (s, u) :: E, t => match Nat.beq s t with | true => some u | false => Env.get E t
/-- The value of an operand. -/
def Env.opd (E : Env) : Operand → Option Value
  | .tmp t => E.get t
  | .const v => some (cn v)
  | .func f => some (.func (.func f) #[] #[])
  | .global g => some (.pointer (some ⟨g, 0, none⟩))

structure Models (n : Nat) (E : Env) (a : Act) : Prop where
  size : a.tmps.size = n
  defers : a.defers = []
  get : ∀ t u, E.get t = some u → ∃ v, a.tmps[t]? = some v ∧ cn v = u

theorem Models.opd {n : Nat} {E : Env} {a : Act} (h : Models n E a) {x : Operand} {u : Value} (hx : E.opd x = some u) : cn (a.eval x) = u := by
  cases x with
  | tmp t =>
    obtain ⟨v, hv, hu⟩ := h.get t u hx
    simp [Act.eval, hv, hu]
  | const v => simp only [Env.opd, Option.some.injEq] at hx; subst hx; rfl
  | func f => simp only [Env.opd, Option.some.injEq] at hx; subst hx; rfl
  | global g => simp only [Env.opd, Option.some.injEq] at hx; subst hx; rfl

theorem Models.put {n : Nat} {E : Env} {a : Act} (h : Models n E a) {d : Nat} (hd : d < n) {v u : Value} (hv : cn v = u) : Models n ((d, u) :: E) (a.put (some d) v) := by
  refine ⟨by simp [Act.put, h.size], h.defers, fun t u' ht => ?_⟩
  simp only [Env.get] at ht
  cases hb : Nat.beq d t with
  | true =>
    rw [hb] at ht
    have e : d = t := Nat.eq_of_beq_eq_true hb
    subst e
    simp only [Option.some.injEq] at ht
    subst ht
    exact ⟨v, by simp [Act.put, h.size, hd], hv⟩
  | false =>
    rw [hb] at ht
    have e : d ≠ t := by intro e; subst e; simp at hb
    obtain ⟨v', h1, h2⟩ := h.get t u' ht
    exact ⟨v', by simp [Act.put, Array.getElem?_setIfInBounds_ne e, h1], h2⟩
theorem Models.put_none {n : Nat} {E : Env} {a : Act} (h : Models n E a) (v : Value) : Models n E (a.put none v) := h
theorem Models.mono {n : Nat} {E E' : Env} {a : Act} (h : Models n E a) (he : ∀ t u, E'.get t = some u → E.get t = some u) : Models n E' a :=
  ⟨h.size, h.defers, fun t u ht => h.get t u (he t u ht)⟩

/-! ### memory -/
/-- From the address a on the cells us lie (canonical). -/
def Cl (w : World) (a : Option Addr) (us : List Value) : Prop :=
  us = [] ∨ ∃ p, a = some p ∧ p.spot = none ∧ ∀ i u, us[i]? = some u → ∃ v, w.cell? ⟨p.block, p.off + i, none⟩ = some v ∧ cn v = u

theorem World.block_lt_of_cell {w : World} {p : Addr} {v : Value} (h : w.cell? p = some v) : p.block < w.heap.size := by
  unfold World.cell? at h
  rcases Nat.lt_or_ge p.block w.heap.size with h' | h'
  · exact h'
  · rw [Array.getElem?_eq_none h'] at h; simp at h

theorem Cl.below {w w' : World} {a : Option Addr} {us : List Value} (h : Cl w a us) (hb : Below w.heap.size w w') : Cl w' a us := by
  rcases h with h | ⟨p, h1, h2, h3⟩
  · exact .inl h
  · refine .inr ⟨p, h1, h2, fun i u hu => ?_⟩
    obtain ⟨v, hv, hu⟩ := h3 i u hu
    exact ⟨v, by rw [hb.cell (World.block_lt_of_cell hv)]; exact hv, hu⟩

theorem Cl.sub {w : World} {a : Option Addr} {us : List Value} (h : Cl w a us) (vs : List Value) (hv : ∀ (i : Nat) u, vs[i]? = some u → us[i]? = some u) : Cl w a vs := by
  cases vs with
  | nil => exact .inl rfl
  | cons v0 vs =>
    rcases h with h | ⟨p, h1, h2, h3⟩
    · have := hv 0 v0 rfl
      rw [h] at this; simp at this
    · exact .inr ⟨p, h1, h2, fun i u hu => h3 i u (hv i u hu)⟩

/-- A block of the call's own (or nothing): it lies at the head of a block, holds us (canonical), and has cap cells. -/
structure Ent where
  a : Option Addr
  us : List Value
  cap : Nat
  ty : TypeId

/-- The block b holds the cells c; none of them shares its bytes with a string (what is marked lies behind the end). -/
def Frz (w : World) (b : Nat) (c : Array Value) (ty : TypeId) : Prop := ∃ z : Nat × Nat, w.heap[b]? = some (.cells c ty z) ∧ (z = (0, 0) ∨ z = (c.size, c.size + 1))
theorem Frz.lt {w : World} {b : Nat} {c : Array Value} {ty : TypeId} (h : Frz w b c ty) : b < w.heap.size := by
  obtain ⟨z, h, _⟩ := h
  rcases Nat.lt_or_ge b w.heap.size with h' | h'
  · exact h'
  · rw [Array.getElem?_eq_none h'] at h; simp at h
theorem Frz.cell {w : World} {b : Nat} {c : Array Value} {ty : TypeId} (h : Frz w b c ty) (i : Nat) : w.cell? ⟨b, i, none⟩ = c[i]? := by
  obtain ⟨z, h, _⟩ := h
  simp [World.cell?, h]
theorem Frz.melt {w : World} {b i : Nat} {c : Array Value} {ty : TypeId} (h : Frz w b c ty) (hi : i < c.size) : w.frozen? ⟨b, i, none⟩ = false := by
  obtain ⟨z, h, rfl | rfl⟩ := h
  · simp [World.frozen?, h]
  · simp [World.frozen?, h]; omega
theorem Frz.same {w w' : World} {b : Nat} {c : Array Value} {ty : TypeId} (h : Frz w b c ty) (he : w'.heap[b]? = w.heap[b]?) : Frz w' b c ty := by
  obtain ⟨z, h, hz⟩ := h
  exact ⟨z, he.trans h, hz⟩
theorem Frz.set {w : World} {b : Nat} {c : Array Value} {ty : TypeId} (h : Frz w b c ty) (i : Nat) (v : Value) : Frz (w.setCell ⟨b, i, none⟩ v) b (c.setIfInBounds i v) ty := by
  obtain ⟨z, h, hz⟩ := h
  exact ⟨z, by simp [World.setCell, Array.getElem?_modify, h], by simpa using hz⟩

def Ent.at (B : Nat) (w : World) (e : Ent) : Prop :=
  (e.us = [] ∧ e.cap = 0) ∨ ∃ (b : Nat) (c : Array Value), e.a = some ⟨b, 0, none⟩ ∧ B ≤ b ∧ Frz w b c e.ty ∧ c.size = e.cap ∧ e.us.length ≤ e.cap ∧
    ∀ (i : Nat) (u : Value), e.us[i]? = some u → ∃ v, c[i]? = some v ∧ cn v = u

def Ent.apart (e f : Ent) : Prop := e.cap ≠ 0 → f.cap ≠ 0 → ∀ p q, e.a = some p → f.a = some q → p.block ≠ q.block

theorem Ent.at.block {B : Nat} {w : World} {e : Ent} (h : e.at B w) (hc : e.cap ≠ 0) {p : Addr} (hp : e.a = some p) : B ≤ p.block ∧ p.block < w.heap.size := by
  rcases h with h | ⟨b, c, h1, h2, h3, _⟩
  · exact absurd h.2 hc
  · rw [h1] at hp
    cases hp
    exact ⟨h2, h3.lt⟩

theorem Ent.at.cl {B : Nat} {w : World} {e : Ent} (h : e.at B w) : Cl w e.a e.us := by
  rcases h with h | ⟨b, c, h1, h2, h3, h4, h5, h6⟩
  · exact .inl h.1
  · refine .inr ⟨_, h1, rfl, fun i u hu => ?_⟩
    obtain ⟨v, hv, hu⟩ := h6 i u hu
    exact ⟨v, by rw [Nat.zero_add, h3.cell]; exact hv, hu⟩

/-- What is known of memory in the middle of a call that began in the world w0. -/
structure Hp (w0 : World) (O : List Ent) (w : World) : Prop where
  below : Below w0.heap.size w0 w
  ents : ∀ e ∈ O, e.at w0.heap.size w
  apart : O.Pairwise Ent.apart

theorem Hp.refl (w : World) : Hp w [] w := ⟨Below.refl _ _, (fun _ h => by cases h), List.Pairwise.nil⟩

theorem Ent.at.of_below {B : Nat} {w w' : World} {e : Ent} (h : e.at B w) (hb : Below w.heap.size w w') : e.at B w' := by
  rcases h with h | ⟨b, c, h1, h2, h3, h4⟩
  · exact .inl h
  · exact .inr ⟨b, c, h1, h2, h3.same (hb.block b h3.lt), h4⟩

/-- The heap has grown, nothing that was there has turned. -/
theorem Hp.ext {w0 : World} {O : List Ent} {w w' : World} (h : Hp w0 O w) (hb : Below w.heap.size w w') : Hp w0 O w' :=
  ⟨h.below.trans (hb.mono h.below.size), fun e he => (h.ents e he).of_below hb, h.apart⟩

theorem Hp.sub {w0 : World} {O O' : List Ent} {w : World} (h : Hp w0 O w) (hs : O'.Sublist O) : Hp w0 O' w :=
  ⟨h.below, fun e he => h.ents e (hs.subset he), h.apart.sublist hs⟩

/-- Something new beside it. -/
theorem Hp.new {w0 : World} {O : List Ent} {w w' : World} (h : Hp w0 O w) (hb : Below w.heap.size w w') {e : Ent} (he : e.at w.heap.size w') : Hp w0 (e :: O) w' := by
  have h' := h.ext hb
  refine ⟨h'.below, fun f hf => ?_, .cons (fun f hf hc hc' p q hp hq => ?_) h'.apart⟩
  · rcases List.mem_cons.1 hf with rfl | hf
    · rcases he with he | ⟨b, c, h1, h2, h3⟩
      · exact .inl he
      · exact .inr ⟨b, c, h1, Nat.le_trans h.below.size h2, h3⟩
    · exact h'.ents f hf
  · have h1 := (he.block hc hp).1
    have h2 := ((h.ents f hf).block hc' hq).2
    omega

/-- Several new ones beside it. -/
theorem Hp.news {w0 : World} {O : List Ent} {w w' : World} (h : Hp w0 O w) (hb : Below w.heap.size w w') {N : List Ent} (hN : ∀ e ∈ N, e.at w.heap.size w') (hp : N.Pairwise Ent.apart) : Hp w0 (N ++ O) w' := by
  have h' := h.ext hb
  refine ⟨h'.below, fun f hf => ?_, List.pairwise_append.2 ⟨hp, h'.apart, fun e he f hf hc hc' p q hp hq => ?_⟩⟩
  · rcases List.mem_append.1 hf with hf | hf
    · rcases hN f hf with he | ⟨b, c, h1, h2, h3⟩
      · exact .inl he
      · exact .inr ⟨b, c, h1, Nat.le_trans h.below.size h2, h3⟩
    · exact h'.ents f hf
  · have h1 := ((hN e he).block hc hp).1
    have h2 := ((h.ents f hf).block hc' hq).2
    omega

/-- In all worlds of the class the cells us lie from a on. -/
def Sees (w0 : World) (O : List Ent) (a : Option Addr) (us : List Value) : Prop := ∀ w, Hp w0 O w → Cl w a us

theorem Sees.root {w0 : World} {O : List Ent} {a : Option Addr} {us : List Value} (h : Cl w0 a us) : Sees w0 O a us := fun _ hw => h.below hw.below
theorem Sees.own {w0 : World} {O : List Ent} {a : Option Addr} {us : List Value} {cap : Nat} {ty : TypeId} (h : (⟨a, us, cap, ty⟩ : Ent) ∈ O) : Sees w0 O a us := fun _ hw => (hw.ents _ h).cl

/-! ### one operation -/
def ResOk (P : Program) (R : Value → World → Prop) : Result Next → Prop
  | .ok (.value v) w' => R v w'
  | .ok .skip w' => R undef w'
  | .ok (.enter f args) w' => Calls P f args w' (fun e w'' => ∃ v, e = .returned v ∧ R v w'')
  | _ => False

theorem ResOk.mono {P : Program} {R R' : Value → World → Prop} {r : Result Next} (h : ResOk P R r) (hr : ∀ v w, R v w → R' v w) : ResOk P R' r := by
  cases r with
  | ok x w =>
    cases x <;> simp only [ResOk] at h ⊢ <;> first | exact hr _ _ h | skip
    exact h.mono fun e w'' ⟨v, he, hv⟩ => ⟨v, he, hr _ _ hv⟩
  | halt x w => exact h.elim

theorem ResOk.upon {P : Program} {R : Value → World → Prop} {r : Result Next} (h : ResOk P R r) {o : Oper} {a : Act} {next : Act → World → Prop} {Q : Exit → Act → World → Prop}
    (hn : ∀ v w, R v w → next (a.put o.dst v) w) : o.upon P a next Q r := by
  cases r with
  | ok x w =>
    cases x <;> simp only [ResOk] at h <;> simp only [Oper.upon] <;> first | exact hn _ _ h | skip
    exact h.mono fun e w'' ⟨v, he, hv⟩ => by subst he; exact hn _ _ hv
  | halt x w => exact h.elim

/-- The operands of the operation read as E has them. -/
def Ev (E : Env) (o : Op) (ρ : Operand → Value) : Prop := ∀ x ∈ o.operands, ∀ u, E.opd x = some u → cn (ρ x) = u

theorem Models.ev {n : Nat} {E : Env} {a : Act} (h : Models n E a) (o : Op) : Ev E o a.eval := fun _ _ _ hx => h.opd hx

/-- The operation o, in whatever world of the class, yields a value that is canonically u, and stays in the class. -/
def Y (P : Program) (w0 : World) (O : List Ent) (E : Env) (o : Oper) (u : Value) : Prop :=
  ∀ ρ w, Ev E o.op ρ → Hp w0 O w → ResOk P (fun v w' => cn v = u ∧ Hp w0 O w') ((execOp ρ o).run P w)

/-- .. leads to R. -/
def YG (P : Program) (w0 : World) (O : List Ent) (E : Env) (o : Oper) (R : Value → World → Prop) : Prop :=
  ∀ ρ w, Ev E o.op ρ → Hp w0 O w → ResOk P (fun v w' => R (cn v) w') ((execOp ρ o).run P w)

/-! ### code -/
section
variable {P : Program} {n : Nat} {w0 : World} {O : List Ent} {E : Env} {Q : Exit → Act → World → Prop} {ops : Array Oper}

def VX (n : Nat) (w0 : World) (O : List Ent) (E : Env) (R : Act → World → Prop) : Prop := ∀ a w, Models n E a → Hp w0 O w → R a w
def V (P : Program) (n : Nat) (w0 : World) (O : List Ent) (E : Env) (c : Code) (Q : Exit → Act → World → Prop) : Prop := VX n w0 O E (c.wp P Q)
def VL (P : Program) (n : Nat) (w0 : World) (O : List Ent) (E : Env) (ops : Array Oper) (Q : Exit → Act → World → Prop) (l : List Oper) : Prop := VX n w0 O E (wpList P ops Q l)
def VE (n : Nat) (w0 : World) (O : List Ent) (E : Env) (Q : Exit → Act → World → Prop) (e : Exit) : Prop := VX n w0 O E (Q e)

theorem VX.mono {E' : Env} {O' : List Ent} {R : Act → World → Prop} (h : VX n w0 O' E' R) (hE : ∀ t u, E'.get t = some u → E.get t = some u) (hO : ∀ w, Hp w0 O w → Hp w0 O' w) : VX n w0 O E R :=
  fun a w ha hw => h a w (ha.mono hE) (hO w hw)

theorem V.seq {x y : Code} (h : V P n w0 O E x (Exit.then (y.wp P Q) Q)) : V P n w0 O E (.seq x y) Q := fun a w ha hw => wp_seq (h a w ha hw)
theorem V.skip (h : VE n w0 O E Q .normal) : V P n w0 O E .skip Q := fun a w ha hw => wp_skip (h a w ha hw)
theorem V.ret (h : VE n w0 O E Q .ret) : V P n w0 O E .ret Q := fun a w ha hw => wp_ret (h a w ha hw)
theorem V.exit {id : Nat} (h : VE n w0 O E Q (.exit id)) : V P n w0 O E (.exit id) Q := fun a w ha hw => wp_exit (h a w ha hw)
theorem V.block {id : Nat} {c : Code} (h : V P n w0 O E c (Exit.inBlock id Q)) : V P n w0 O E (.block id c) Q := fun a w ha hw => wp_block (h a w ha hw)
theorem V.cond {c : Operand} {x y : Code} {b : Bool} (hc : E.opd c = some (.bool b)) (ht : b = true → V P n w0 O E x Q) (hf : b = false → V P n w0 O E y Q) : V P n w0 O E (.cond c x y) Q := by
  intro a w ha hw
  exact wp_cond_split (cn_bool (ha.opd hc)) (fun h => ht h a w ha hw) (fun h => hf h a w ha hw)
theorem V.region {id : Nat} {l : List Oper} (h : VL P n w0 O E l.toArray Q l) : V P n w0 O E (.region id l.toArray false) Q := fun a w ha hw => wp_region_lit (h a w ha hw)

theorem VL.nil (h : VE n w0 O E Q .normal) : VL P n w0 O E ops Q [] := fun a w ha hw => wpList_nil (h a w ha hw)

theorem VL.opG {o : Oper} {rest : List Oper} {d : Nat} {R : Value → World → Prop} (hg : o.guard = none) (hd : o.dst = some d) (hdn : d < n) (hy : YG P w0 O E o R)
    (h : ∀ u w, R u w → ∃ O', Hp w0 O' w ∧ VL P n w0 O' ((d, u) :: E) ops Q rest) : VL P n w0 O E ops Q (o :: rest) := by
  intro a w ha hw
  refine wpList_plain hg fun K hK => ?_
  unfold Oper.wp
  refine (hy a.eval w (ha.ev _) hw).upon fun v w' hv => hK _ _ ?_
  obtain ⟨O', h1, h2⟩ := h _ _ hv
  exact h2 _ _ (by rw [hd]; exact ha.put hdn rfl) h1

/-- An operation without a place for its value (a store). -/
theorem VL.opN {o : Oper} {rest : List Oper} {O' : List Ent} (hg : o.guard = none) (hd : o.dst = none) (hy : YG P w0 O E o (fun _ w' => Hp w0 O' w'))
    (h : VL P n w0 O' E ops Q rest) : VL P n w0 O E ops Q (o :: rest) := by
  intro a w ha hw
  refine wpList_plain hg fun K hK => ?_
  unfold Oper.wp
  refine (hy a.eval w (ha.ev _) hw).upon fun v w' hv => hK _ _ ?_
  exact h _ _ (by rw [hd]; exact ha) hv

theorem VL.op {o : Oper} {rest : List Oper} {d : Nat} {u : Value} (hg : o.guard = none) (hd : o.dst = some d) (hdn : d < n) (hy : Y P w0 O E o u)
    (h : VL P n w0 O ((d, u) :: E) ops Q rest) : VL P n w0 O E ops Q (o :: rest) := by
  intro a w ha hw
  refine wpList_plain hg fun K hK => ?_
  unfold Oper.wp
  refine (hy a.eval w (ha.ev _) hw).upon fun v w' hv => hK _ _ ?_
  exact h _ _ (by rw [hd]; exact ha.put hdn hv.1) hv.2

theorem yielded_of {a : Act} {j t : Nat} {b : Bool} (ha : Models n E a) (hj : (ops[j]?).bind (·.dst) = some t) (hb : E.get t = some (.bool b)) : yielded ops a.tmps j = some b := by
  obtain ⟨v, hv, hu⟩ := ha.get t _ hb
  have := cn_bool hu
  subst this
  simp [yielded, hj, hv]

theorem VL.yes {o : Oper} {rest : List Oper} {d j t : Nat} {b : Bool} {u : Value} (hg : o.guard = some (j, b)) (hj : (ops[j]?).bind (·.dst) = some t) (hb : E.get t = some (.bool b)) (hd : o.dst = some d) (hdn : d < n) (hy : Y P w0 O E o u)
    (h : VL P n w0 O ((d, u) :: E) ops Q rest) : VL P n w0 O E ops Q (o :: rest) := by
  intro a w ha hw
  refine wpList_step fun K hK => ?_
  rw [if_pos (by simp [Region.wanted, hg, yielded_of ha hj hb])]
  unfold Oper.wp
  refine (hy a.eval w (ha.ev _) hw).upon fun v w' hv => hK _ _ ?_
  exact h _ _ (by rw [hd]; exact ha.put hdn hv.1) hv.2

theorem VL.yesG {o : Oper} {rest : List Oper} {d j t : Nat} {b : Bool} {R : Value → World → Prop} (hg : o.guard = some (j, b)) (hj : (ops[j]?).bind (·.dst) = some t) (hb : E.get t = some (.bool b)) (hd : o.dst = some d) (hdn : d < n) (hy : YG P w0 O E o R)
    (h : ∀ u w, R u w → ∃ O', Hp w0 O' w ∧ VL P n w0 O' ((d, u) :: E) ops Q rest) : VL P n w0 O E ops Q (o :: rest) := by
  intro a w ha hw
  refine wpList_step fun K hK => ?_
  rw [if_pos (by simp [Region.wanted, hg, yielded_of ha hj hb])]
  unfold Oper.wp
  refine (hy a.eval w (ha.ev _) hw).upon fun v w' hv => hK _ _ ?_
  obtain ⟨O', h1, h2⟩ := h _ _ hv
  exact h2 _ _ (by rw [hd]; exact ha.put hdn rfl) h1

theorem VL.no {o : Oper} {rest : List Oper} {d j t : Nat} {b b' : Bool} (hg : o.guard = some (j, b)) (hj : (ops[j]?).bind (·.dst) = some t) (hb : E.get t = some (.bool b')) (hne : (b' == b) = false) (hd : o.dst = some d) (hdn : d < n)
    (h : VL P n w0 O ((d, undef) :: E) ops Q rest) : VL P n w0 O E ops Q (o :: rest) := by
  intro a w ha hw
  refine wpList_step fun K hK => ?_
  rw [if_neg (by simp [Region.wanted, hg, yielded_of ha hj hb]; intro e; subst e; simp at hne)]
  exact hK _ _ (h _ _ (by rw [hd]; exact ha.put hdn (by simp [undef, cn])) hw)

theorem Env.get_shadow (t : Nat) (u : Value) (E : Env) (h : E.get t = some u) (s : Nat) : Env.get ((t, u) :: E) s = E.get s := by
  simp only [Env.get]
  cases hb : Nat.beq t s with
  | true =>
    have e : t = s := Nat.eq_of_beq_eq_true hb
    subst e
    exact h.symm
  | false => rfl

/-- A test that is not decided: both ways. -/
theorem VX.split {R : Act → World → Prop} (t : Nat) (b : Bool) (hb : E.get t = some (.bool b)) (ht : b = true → VX n w0 O ((t, .bool true) :: E) R) (hf : b = false → VX n w0 O ((t, .bool false) :: E) R) : VX n w0 O E R := by
  cases b with
  | true => exact (ht rfl).mono (fun s u hs => by rwa [Env.get_shadow t _ E hb s] at hs) (fun _ h => h)
  | false => exact (hf rfl).mono (fun s u hs => by rwa [Env.get_shadow t _ E hb s] at hs) (fun _ h => h)

/-! ### exits -/
theorem VE.then_wp {y : Code} (h : V P n w0 O E y Q) : VE n w0 O E (Exit.then (y.wp P Q) Q) .normal := h
theorem VE.then_exit {K : Act → World → Prop} {id : Nat} (h : VE n w0 O E Q (.exit id)) : VE n w0 O E (Exit.then K Q) (.exit id) := h
theorem VE.then_ret {K : Act → World → Prop} (h : VE n w0 O E Q .ret) : VE n w0 O E (Exit.then K Q) .ret := h
theorem VE.block_normal {id : Nat} (h : VE n w0 O E Q .normal) : VE n w0 O E (Exit.inBlock id Q) .normal := h
theorem VE.block_ret {id : Nat} (h : VE n w0 O E Q .ret) : VE n w0 O E (Exit.inBlock id Q) .ret := h
theorem VE.block_here {id : Nat} (h : VE n w0 O E Q .normal) : VE n w0 O E (Exit.inBlock id Q) (.exit id) := fun a w ha hw => by simpa [Exit.inBlock] using h a w ha hw
theorem VE.block_on {id id' : Nat} (hne : Nat.beq id' id = false) (h : VE n w0 O E Q (.exit id')) : VE n w0 O E (Exit.inBlock id Q) (.exit id') := fun a w ha hw => by
  have : id' ≠ id := by intro e; subst e; simp at hne
  simpa [Exit.inBlock, this] using h a w ha hw

/-! ### loops -/
theorem V.loop {G : Type} {body : Code} (I : G → Prop) (Og : G → List Ent) (Ev' : G → Env) (Ec : Env) (μ : G → Nat) (g0 : G)
    (hE : ∀ t u, Env.get (Ev' g0 ++ Ec) t = some u → E.get t = some u) (hO : ∀ w, Hp w0 O w → Hp w0 (Og g0) w) (h0 : I g0)
    (round : ∀ g, I g → V P n w0 (Og g) (Ev' g ++ Ec) body (Exit.then (fun a w => ∃ g', I g' ∧ Models n (Ev' g' ++ Ec) a ∧ Hp w0 (Og g') w ∧ μ g' < μ g) Q)) :
    V P n w0 O E (.loop body) Q := by
  intro a w ha hw
  intro b k cs
  -- the measure is kept with the ghost
  have key : ∀ m (g : G), μ g = m → I g → ∀ a w, Models n (Ev' g ++ Ec) a → Hp w0 (Og g) w →
      ∃ e a' w', Q e a' w' ∧ Arrives P (lone (b.at a (.code body :: .inLoop body :: k)) cs w) b k cs e a' w' := by
    intro m
    induction m using Nat.strongRecOn with
    | _ m ih =>
      intro g hm hg a w ha hw
      obtain ⟨e, a₁, w₁, hq, harr⟩ := round g hg a w ha hw b (.inLoop body :: k) cs
      cases e with
      | normal =>
        obtain ⟨g', hg', ha', hw', hlt⟩ := hq
        obtain ⟨e₂, a₂, w₂, hq₂, harr₂⟩ := ih (μ g') (hm ▸ hlt) g' rfl hg' a₁ w₁ ha' hw'
        exact ⟨e₂, a₂, w₂, hq₂, .of_steps (Steps.trans harr (.one step_inLoop)) harr₂⟩
      | exit id => exact ⟨_, a₁, w₁, hq, .pass (x := .inLoop body) rfl (fun _ _ => .inl (by simp)) harr⟩
      | goto l => exact ⟨_, a₁, w₁, hq, .pass (x := .inLoop body) rfl (fun _ _ => .inl (by simp)) harr⟩
      | ret => exact ⟨_, a₁, w₁, hq, .pass (x := .inLoop body) rfl (fun _ _ => .inl (by simp)) harr⟩
      | panic ch => exact ⟨_, a₁, w₁, hq, .pass (x := .inLoop body) rfl (fun _ _ => .inl (by simp)) harr⟩
      | outgrown => exact ⟨_, a₁, w₁, hq, .pass (x := .inLoop body) rfl (fun _ _ => .inl (by simp)) harr⟩
  obtain ⟨e, a', w', hq, harr⟩ := key _ g0 rfl h0 a w (ha.mono hE) (hO w hw)
  exact ⟨e, a', w', hq, .of_steps (.one step_loop) harr⟩
end
end Go.Proofs.Ytacjcomjnabmhaa
