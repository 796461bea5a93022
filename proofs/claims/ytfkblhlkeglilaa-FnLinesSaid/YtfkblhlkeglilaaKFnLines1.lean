/- Own texts of this claim, merged: Short, Core, Float, Rules, Calls, Make. -/
import Derived.KernelRfl
import Derived.WalkKit
import Derived.WalkLawsBesides
import Derived.Deep.Draws
import Derived.Deep.Cut
namespace Go.Proofs.Ytfkblhlkeglilaa
theorem zz0 {P : Prop} (h : P := by first | exact Sees.root (by assumption) | exact Sees.own (by repeat (first | exact List.mem_cons_self | exact List.mem_append_left _ (by assumption) | apply List.mem_cons_of_mem | apply List.mem_append_right)) | exact Sees.root (hR _ (by omega)) | exact Sees.own (RowsIn.mem (by repeat (first | exact RowsIn.here | exact RowsIn.last | apply RowsIn.there | apply RowsIn.thereS)) _ (by omega)) | exact Sees.own (WRowsIn.mem (by repeat (first | exact WRowsIn.here | exact WRowsIn.last | apply WRowsIn.there | apply WRowsIn.thereS)) _ (by omega))) : P := h
theorem zz1 {P : Prop} (h : P := by first | exact Sees.root (by assumption) | exact Sees.own (by (try simp only [List.append_assoc, List.cons_append, List.nil_append]); repeat (first | exact List.mem_cons_self | exact List.mem_append_left _ (by assumption) | apply List.mem_cons_of_mem | apply List.mem_append_right)) | exact Sees.root (hR _ (by omega)) | exact Sees.own (RowsIn.mem (by (try simp only [List.append_assoc, List.cons_append, List.nil_append]); repeat (first | exact RowsIn.here | exact RowsIn.last | apply RowsIn.there | apply RowsIn.thereS)) _ (by omega)) | exact Sees.own (WRowsIn.mem (by (try simp only [List.append_assoc, List.cons_append, List.nil_append]); repeat (first | exact WRowsIn.here | exact WRowsIn.last | apply WRowsIn.there | apply WRowsIn.thereS)) _ (by omega))) : P := h
theorem zz2 {P : Prop} (h : P := by first | exact Sees.root (by assumption) w hw | exact Sees.own (by repeat (first | exact List.mem_cons_self | exact List.mem_append_left _ (by assumption) | apply List.mem_cons_of_mem | apply List.mem_append_right)) w hw) : P := h
theorem zz3 {P : Prop} (h : P := by repeat (first | exact UpdF.here | apply UpdF.there | apply UpdF.thereS)) : P := h
theorem zz4 {P : Prop} (h : P := by first | exact Nat.le_of_ble_eq_true rfl | simp) : P := h
theorem zz5 {P : Prop} (h : P := by first | omega | exact (show ((thQ (sP f43 g43 h43) (stw x49) x54).length - 1) < (thQ (sP f43 g43 h43) (stw x49) x54).length by have := (thQ_len (P := (sP f43 g43 h43)) (st := (stw x49)) (n := x54)); omega) | exact (show 0 < (thQ (sP f43 g43 h43) (stw x49) x54).length by have := (thQ_len (P := (sP f43 g43 h43)) (st := (stw x49)) (n := x54)); omega)) : P := h
theorem zz6 {P : Prop} (h : P := by first | rfl | omega | (push_cast; rfl) | (push_cast; omega) | exact tmod_nat _ _) : P := h
theorem zz7 {P : Prop} (h : P := by first | (simp; done) | (simp [vv]; done) | (simp [cn, cn1, cn0]; done)) : P := h
theorem zz8 {P : Prop} (h : P := by apply Pick.cons1; (· repeat (first | exact Rem.here | exact Rem.all | exact Rem.hereS | apply Rem.there | apply Rem.thereS)); apply Pick.cons1; (· repeat (first | exact Rem.here | exact Rem.all | exact Rem.hereS | apply Rem.there | apply Rem.thereS)); exact Pick.nil) : P := h
theorem zz9 {P : Prop} (h : P := by first | exact (congrArg Prod.snd (bd2 (bdQ_is L k) (by assumption) (by assumption))).symm | exact (congrArg Prod.snd (bd3 (bdQ_is L k) (by assumption) (by assumption))).symm | exact (congrArg Prod.snd (bd1 (bdQ_is L k) (by assumption))).symm | exact (congrArg Prod.snd (bd4 (bdQ_is L k) (by assumption) (by assumption))).symm) : P := h
theorem zz10 {P : Prop} (h : P := by first | exact (congrArg Prod.fst (bd2 (bdQ_is L k) (by assumption) (by assumption))).symm | exact (congrArg Prod.fst (bd3 (bdQ_is L k) (by assumption) (by assumption))).symm | exact (congrArg Prod.fst (bd1 (bdQ_is L k) (by assumption))).symm | exact (congrArg Prod.fst (bd4 (bdQ_is L k) (by assumption) (by assumption))).symm) : P := h
end Go.Proofs.Ytfkblhlkeglilaa

namespace Go.Proofs.Ytfkblhlkeglilaa
open Go.RowKit
def qn : FloatKind → Nat
  | .f32 => 0x7fc00000
  | .f64 => 0x7ff8000000000001
def fnan (k : FloatKind) (b : Nat) : Bool := (k.decode b).isNaN
def cb (k : FloatKind) (b : Nat) : Nat := if fnan k b then qn k else b
def cn0 : Value → Value
  | .float k b => .float k (cb k b)
  | .complex k a b => .complex k (cb k a) (cb k b)
  | v => v
def cn1 : Value → Value
  | .agg cs => .agg (cs.map cn0)
  | v => cn0 v
def cn : Value → Value
  | .tuple vs => .tuple (vs.map cn1)
  | v => cn1 v
theorem cn_int {v : Value} {k : IntKind} {n : Int} (h : cn v = .int k n) : v = .int k n := by
  cases v <;> simp [cn, cn1, cn0] at h ⊢ <;> exact h
theorem cn_bool {v : Value} {b : Bool} (h : cn v = .bool b) : v = .bool b := by
  cases v <;> simp [cn, cn1, cn0] at h ⊢ <;> exact h
theorem cn_pointer {v : Value} {p : Option Addr} (h : cn v = .pointer p) : v = .pointer p := by
  cases v <;> simp [cn, cn1, cn0] at h ⊢ <;> exact h
theorem cn_slice {v : Value} {p : Option Addr} {n c : Nat} (h : cn v = .slice p n c) : v = .slice p n c := by
  cases v <;> simp [cn, cn1, cn0] at h ⊢ <;> exact h
theorem cn_func {v : Value} {f : Fn} {a b : Array Value} (h : cn v = .func f a b) : v = .func f a b := by
  cases v <;> simp [cn, cn1, cn0] at h ⊢ <;> exact h
theorem cn_float {v : Value} {k : FloatKind} {x : Nat} (h : cn v = .float k x) : ∃ b, v = .float k b ∧ cb k b = x := by
  cases v <;> simp [cn, cn1, cn0] at h ⊢
  obtain ⟨rfl, h⟩ := h; exact ⟨_, ⟨rfl, rfl⟩, h⟩
theorem cn_agg {v : Value} {us : Array Value} (h : cn v = .agg us) : ∃ cs, v = .agg cs ∧ cs.map cn0 = us := by
  cases v <;> simp [cn, cn1, cn0] at h ⊢
  exact h
theorem cn_tuple {v : Value} {us : Array Value} (h : cn v = .tuple us) : ∃ cs, v = .tuple cs ∧ cs.map cn1 = us := by
  cases v <;> simp [cn, cn1, cn0] at h ⊢
  exact h
theorem width_pos (f : Ieee.Format) : 2 ^ f.width = 2 * f.signWeight := by
  unfold Ieee.Format.width Ieee.Format.signWeight
  rw [Nat.add_assoc, Nat.pow_add]
abbrev Env := List (Nat × Value)
def Env.get : Env → Nat → Option Value
  | [], _ => none
  | (s, u) :: E, t => match Nat.beq s t with | true => some u | false => Env.get E t
/-- The value of an operand. -/
def Env.opd (E : Env) : Operand → Option Value
  | .tmp t => E.get t
  | .const v => some (cn v)
  | .func f => some (.func (.func f) #[] #[])
  | .global g => some (.pointer (some ⟨g, 0, none⟩))
structure Models (n : Nat) (E : Env) (a : Act) : Prop where
  size : a.tmps.size = n
  defers : a.defers = []
  get : ∀ t u, E.get t = some u → ∃ v, a.tmps[t]? = some v ∧ cn v = u
theorem Models.opd {n : Nat} {E : Env} {a : Act} (h : Models n E a) {x : Operand} {u : Value} (hx : E.opd x = some u) : cn (a.eval x) = u := by
  cases x with
  | tmp t =>
    obtain ⟨v, hv, hu⟩ := h.get t u hx
    simp [Act.eval, hv, hu]
  | const v => simp only [Env.opd, Option.some.injEq] at hx; subst hx; rfl
  | func f => simp only [Env.opd, Option.some.injEq] at hx; subst hx; rfl
  | global g => simp only [Env.opd, Option.some.injEq] at hx; subst hx; rfl
theorem Models.put {n : Nat} {E : Env} {a : Act} (h : Models n E a) {d : Nat} (hd : d < n) {v u : Value} (hv : cn v = u) : Models n ((d, u) :: E) (a.put (some d) v) := by
  refine ⟨by simp [Act.put, h.size], h.defers, fun t u' ht => ?_⟩
  simp only [Env.get] at ht
  cases hb : Nat.beq d t with
  | true =>
    rw [hb] at ht
    have e : d = t := Nat.eq_of_beq_eq_true hb
    subst e
    simp only [Option.some.injEq] at ht
    subst ht
    exact ⟨v, by simp [Act.put, h.size, hd], hv⟩
  | false =>
    rw [hb] at ht
    have e : d ≠ t := by intro e; subst e; simp at hb
    obtain ⟨v', h1, h2⟩ := h.get t u' ht
    exact ⟨v', by simp [Act.put, Array.getElem?_setIfInBounds_ne e, h1], h2⟩
theorem Models.mono {n : Nat} {E E' : Env} {a : Act} (h : Models n E a) (he : ∀ t u, E'.get t = some u → E.get t = some u) : Models n E' a :=
  ⟨h.size, h.defers, fun t u ht => h.get t u (he t u ht)⟩
/-- From the address a on the cells us lie (canonical). -/
def Cl (w : World) (a : Option Addr) (us : List Value) : Prop :=
  us = [] ∨ ∃ p, a = some p ∧ p.spot = none ∧ ∀ i u, us[i]? = some u → ∃ v, w.cell? ⟨p.block, p.off + i, none⟩ = some v ∧ cn v = u
theorem World.block_lt_of_cell {w : World} {p : Addr} {v : Value} (h : w.cell? p = some v) : p.block < w.heap.size := by
  unfold World.cell? at h
  rcases Nat.lt_or_ge p.block w.heap.size with h' | h'
  · exact h'
  · rw [Array.getElem?_eq_none h'] at h; simp at h
theorem Cl.below {w w' : World} {a : Option Addr} {us : List Value} (h : Cl w a us) (hb : Below w.heap.size w w') : Cl w' a us := by
  rcases h with h | ⟨p, h1, h2, h3⟩
  · exact .inl h
  · refine .inr ⟨p, h1, h2, fun i u hu => ?_⟩
    obtain ⟨v, hv, hu⟩ := h3 i u hu
    exact ⟨v, by rw [hb.cell (World.block_lt_of_cell hv)]; exact hv, hu⟩
theorem Cl.sub {w : World} {a : Option Addr} {us : List Value} (h : Cl w a us) (vs : List Value) (hv : ∀ (i : Nat) u, vs[i]? = some u → us[i]? = some u) : Cl w a vs := by
  cases vs with
  | nil => exact .inl rfl
  | cons v0 vs =>
    rcases h with h | ⟨p, h1, h2, h3⟩
    · have := hv 0 v0 rfl
      rw [h] at this; simp at this
    · exact .inr ⟨p, h1, h2, fun i u hu => h3 i u (hv i u hu)⟩
/-- A block of the call's own (or nothing): it lies at the head of a block, holds us (canonical), and has cap cells. -/
structure Ent where
  a : Option Addr
  us : List Value
  cap : Nat
  ty : TypeId
/-- The block b holds the cells c; none of them shares its bytes with a string (what is marked lies behind the end). -/
def Frz (w : World) (b : Nat) (c : Array Value) (ty : TypeId) : Prop := ∃ z : Nat × Nat, w.heap[b]? = some (.cells c ty z) ∧ (z = (0, 0) ∨ (ty = 5 ∧ z = (c.size, c.size + 1)))
theorem Frz.lt {w : World} {b : Nat} {c : Array Value} {ty : TypeId} (h : Frz w b c ty) : b < w.heap.size := by
  obtain ⟨z, h, _⟩ := h
  rcases Nat.lt_or_ge b w.heap.size with h' | h'
  · exact h'
  · rw [Array.getElem?_eq_none h'] at h; simp at h
theorem Frz.cell {w : World} {b : Nat} {c : Array Value} {ty : TypeId} (h : Frz w b c ty) (i : Nat) : w.cell? ⟨b, i, none⟩ = c[i]? := by
  obtain ⟨z, h, _⟩ := h
  simp [World.cell?, h]
theorem Frz.melt {w : World} {b i : Nat} {c : Array Value} {ty : TypeId} (h : Frz w b c ty) (hi : i < c.size) : w.frozen? ⟨b, i, none⟩ = false := by
  obtain ⟨z, h, rfl | ⟨_, rfl⟩⟩ := h
  · simp [World.frozen?, h]
  · simp [World.frozen?, h]; omega
theorem Frz.same {w w' : World} {b : Nat} {c : Array Value} {ty : TypeId} (h : Frz w b c ty) (he : w'.heap[b]? = w.heap[b]?) : Frz w' b c ty := by
  obtain ⟨z, h, hz⟩ := h
  exact ⟨z, he.trans h, hz⟩
theorem Frz.set {w : World} {b : Nat} {c : Array Value} {ty : TypeId} (h : Frz w b c ty) (i : Nat) (v : Value) : Frz (w.setCell ⟨b, i, none⟩ v) b (c.setIfInBounds i v) ty := by
  obtain ⟨z, h, hz⟩ := h
  exact ⟨z, by simp [World.setCell, Array.getElem?_modify, h], by simpa using hz⟩
def Ent.at (B : Nat) (w : World) (e : Ent) : Prop :=
  (e.us = [] ∧ e.cap = 0) ∨ ∃ (b : Nat) (c : Array Value), e.a = some ⟨b, 0, none⟩ ∧ B ≤ b ∧ Frz w b c e.ty ∧ c.size = e.cap ∧ e.us.length ≤ e.cap ∧
    ∀ (i : Nat) (u : Value), e.us[i]? = some u → ∃ v, c[i]? = some v ∧ cn v = u
def Ent.apart (e f : Ent) : Prop := e.cap ≠ 0 → f.cap ≠ 0 → ∀ p q, e.a = some p → f.a = some q → p.block ≠ q.block
theorem Ent.at.block {B : Nat} {w : World} {e : Ent} (h : e.at B w) (hc : e.cap ≠ 0) {p : Addr} (hp : e.a = some p) : B ≤ p.block ∧ p.block < w.heap.size := by
  rcases h with h | ⟨b, c, h1, h2, h3, _⟩
  · exact absurd h.2 hc
  · rw [h1] at hp
    cases hp
    exact ⟨h2, h3.lt⟩
theorem Ent.at.cl {B : Nat} {w : World} {e : Ent} (h : e.at B w) : Cl w e.a e.us := by
  rcases h with h | ⟨b, c, h1, h2, h3, h4, h5, h6⟩
  · exact .inl h.1
  · refine .inr ⟨_, h1, rfl, fun i u hu => ?_⟩
    obtain ⟨v, hv, hu⟩ := h6 i u hu
    exact ⟨v, by rw [Nat.zero_add, h3.cell]; exact hv, hu⟩
/-- What is known of memory in the middle of a call that began in the world w0. -/
structure Hp (w0 : World) (O : List Ent) (w : World) : Prop where
  below : Below w0.heap.size w0 w
  ents : ∀ e ∈ O, e.at w0.heap.size w
  apart : O.Pairwise Ent.apart
theorem Hp.refl (w : World) : Hp w [] w := ⟨Below.refl _ _, (fun _ h => by cases h), List.Pairwise.nil⟩
theorem Ent.at.of_below {B : Nat} {w w' : World} {e : Ent} (h : e.at B w) (hb : Below w.heap.size w w') : e.at B w' := by
  rcases h with h | ⟨b, c, h1, h2, h3, h4⟩
  · exact .inl h
  · exact .inr ⟨b, c, h1, h2, h3.same (hb.block b h3.lt), h4⟩
/-- The heap has grown, nothing that was there has turned. -/
theorem Hp.ext {w0 : World} {O : List Ent} {w w' : World} (h : Hp w0 O w) (hb : Below w.heap.size w w') : Hp w0 O w' :=
  ⟨h.below.trans (hb.mono h.below.size), fun e he => (h.ents e he).of_below hb, h.apart⟩
theorem Hp.sub {w0 : World} {O O' : List Ent} {w : World} (h : Hp w0 O w) (hs : O'.Sublist O) : Hp w0 O' w :=
  ⟨h.below, fun e he => h.ents e (hs.subset he), h.apart.sublist hs⟩
/-- Something new beside it. -/
theorem Hp.new {w0 : World} {O : List Ent} {w w' : World} (h : Hp w0 O w) (hb : Below w.heap.size w w') {e : Ent} (he : e.at w.heap.size w') : Hp w0 (e :: O) w' := by
  have h' := h.ext hb
  refine ⟨h'.below, fun f hf => ?_, .cons (fun f hf hc hc' p q hp hq => ?_) h'.apart⟩
  · rcases List.mem_cons.1 hf with rfl | hf
    · rcases he with he | ⟨b, c, h1, h2, h3⟩
      · exact .inl he
      · exact .inr ⟨b, c, h1, Nat.le_trans h.below.size h2, h3⟩
    · exact h'.ents f hf
  · have h1 := (he.block hc hp).1
    have h2 := ((h.ents f hf).block hc' hq).2
    omega
/-- Several new ones beside it. -/
theorem Hp.news {w0 : World} {O : List Ent} {w w' : World} (h : Hp w0 O w) (hb : Below w.heap.size w w') {N : List Ent} (hN : ∀ e ∈ N, e.at w.heap.size w') (hp : N.Pairwise Ent.apart) : Hp w0 (N ++ O) w' := by
  have h' := h.ext hb
  refine ⟨h'.below, fun f hf => ?_, List.pairwise_append.2 ⟨hp, h'.apart, fun e he f hf hc hc' p q hp hq => ?_⟩⟩
  · rcases List.mem_append.1 hf with hf | hf
    · rcases hN f hf with he | ⟨b, c, h1, h2, h3⟩
      · exact .inl he
      · exact .inr ⟨b, c, h1, Nat.le_trans h.below.size h2, h3⟩
    · exact h'.ents f hf
  · have h1 := ((hN e he).block hc hp).1
    have h2 := ((h.ents f hf).block hc' hq).2
    omega
/-- In all worlds of the class the cells us lie from a on. -/
def Sees (w0 : World) (O : List Ent) (a : Option Addr) (us : List Value) : Prop := ∀ w, Hp w0 O w → Cl w a us
theorem Sees.root {w0 : World} {O : List Ent} {a : Option Addr} {us : List Value} (h : Cl w0 a us) : Sees w0 O a us := fun _ hw => h.below hw.below
theorem Sees.own {w0 : World} {O : List Ent} {a : Option Addr} {us : List Value} {cap : Nat} {ty : TypeId} (h : (⟨a, us, cap, ty⟩ : Ent) ∈ O) : Sees w0 O a us := fun _ hw => (hw.ents _ h).cl
def ResOk (P : Program) (R : Value → World → Prop) : Result Next → Prop
  | .ok (.value v) w' => R v w'
  | .ok .skip w' => R undef w'
  | .ok (.enter f args) w' => Calls P f args w' (fun e w'' => ∃ v, e = .returned v ∧ R v w'')
  | _ => False
theorem ResOk.mono {P : Program} {R R' : Value → World → Prop} {r : Result Next} (h : ResOk P R r) (hr : ∀ v w, R v w → R' v w) : ResOk P R' r := by
  cases r with
  | ok x w =>
    cases x <;> simp only [ResOk] at h ⊢ <;> first | exact hr _ _ h | skip
    exact h.mono fun e w'' ⟨v, he, hv⟩ => ⟨v, he, hr _ _ hv⟩
  | halt x w => exact h.elim
theorem ResOk.upon {P : Program} {R : Value → World → Prop} {r : Result Next} (h : ResOk P R r) {o : Oper} {a : Act} {next : Act → World → Prop} {Q : Exit → Act → World → Prop}
    (hn : ∀ v w, R v w → next (a.put o.dst v) w) : o.upon P a next Q r := by
  cases r with
  | ok x w =>
    cases x <;> simp only [ResOk] at h <;> simp only [Oper.upon] <;> first | exact hn _ _ h | skip
    exact h.mono fun e w'' ⟨v, he, hv⟩ => by subst he; exact hn _ _ hv
  | halt x w => exact h.elim
/-- The operands of the operation read as E has them. -/
def Ev (E : Env) (o : Op) (ρ : Operand → Value) : Prop := ∀ x ∈ o.operands, ∀ u, E.opd x = some u → cn (ρ x) = u
theorem Models.ev {n : Nat} {E : Env} {a : Act} (h : Models n E a) (o : Op) : Ev E o a.eval := fun _ _ _ hx => h.opd hx
/-- The operation o, in whatever world of the class, yields a value that is canonically u, and stays in the class. -/
def Y (P : Program) (w0 : World) (O : List Ent) (E : Env) (o : Oper) (u : Value) : Prop :=
  ∀ ρ w, Ev E o.op ρ → Hp w0 O w → ResOk P (fun v w' => cn v = u ∧ Hp w0 O w') ((execOp ρ o).run P w)
section
variable {P : Program} {n : Nat} {w0 : World} {O : List Ent} {E : Env} {Q : Exit → Act → World → Prop} {ops : Array Oper}
def VX (n : Nat) (w0 : World) (O : List Ent) (E : Env) (R : Act → World → Prop) : Prop := ∀ a w, Models n E a → Hp w0 O w → R a w
def V (P : Program) (n : Nat) (w0 : World) (O : List Ent) (E : Env) (c : Code) (Q : Exit → Act → World → Prop) : Prop := VX n w0 O E (c.wp P Q)
def VL (P : Program) (n : Nat) (w0 : World) (O : List Ent) (E : Env) (ops : Array Oper) (Q : Exit → Act → World → Prop) (l : List Oper) : Prop := VX n w0 O E (wpList P ops Q l)
def VE (n : Nat) (w0 : World) (O : List Ent) (E : Env) (Q : Exit → Act → World → Prop) (e : Exit) : Prop := VX n w0 O E (Q e)
theorem VX.mono {E' : Env} {O' : List Ent} {R : Act → World → Prop} (h : VX n w0 O' E' R) (hE : ∀ t u, E'.get t = some u → E.get t = some u) (hO : ∀ w, Hp w0 O w → Hp w0 O' w) : VX n w0 O E R :=
  fun a w ha hw => h a w (ha.mono hE) (hO w hw)
theorem V.seq {x y : Code} (h : V P n w0 O E x (Exit.then (y.wp P Q) Q)) : V P n w0 O E (.seq x y) Q := fun a w ha hw => wp_seq (h a w ha hw)
theorem V.skip (h : VE n w0 O E Q .normal) : V P n w0 O E .skip Q := fun a w ha hw => wp_skip (h a w ha hw)
theorem V.ret (h : VE n w0 O E Q .ret) : V P n w0 O E .ret Q := fun a w ha hw => wp_ret (h a w ha hw)
theorem V.exit {id : Nat} (h : VE n w0 O E Q (.exit id)) : V P n w0 O E (.exit id) Q := fun a w ha hw => wp_exit (h a w ha hw)
theorem V.block {id : Nat} {c : Code} (h : V P n w0 O E c (Exit.inBlock id Q)) : V P n w0 O E (.block id c) Q := fun a w ha hw => wp_block (h a w ha hw)
theorem V.cond {c : Operand} {x y : Code} {b : Bool} (hc : E.opd c = some (.bool b)) (ht : b = true → V P n w0 O E x Q) (hf : b = false → V P n w0 O E y Q) : V P n w0 O E (.cond c x y) Q := by
  intro a w ha hw
  exact wp_cond_split (cn_bool (ha.opd hc)) (fun h => ht h a w ha hw) (fun h => hf h a w ha hw)
theorem V.region {id : Nat} {l : List Oper} (h : VL P n w0 O E l.toArray Q l) : V P n w0 O E (.region id l.toArray false) Q := fun a w ha hw => wp_region_lit (h a w ha hw)
theorem VL.nil (h : VE n w0 O E Q .normal) : VL P n w0 O E ops Q [] := fun a w ha hw => wpList_nil (h a w ha hw)
theorem VL.op {o : Oper} {rest : List Oper} {d : Nat} {u : Value} (hg : o.guard = none) (hd : o.dst = some d) (hdn : d < n) (hy : Y P w0 O E o u)
    (h : VL P n w0 O ((d, u) :: E) ops Q rest) : VL P n w0 O E ops Q (o :: rest) := by
  intro a w ha hw
  refine wpList_plain hg fun K hK => ?_
  unfold Oper.wp
  refine (hy a.eval w (ha.ev _) hw).upon fun v w' hv => hK _ _ ?_
  exact h _ _ (by rw [hd]; exact ha.put hdn hv.1) hv.2
theorem yielded_of {a : Act} {j t : Nat} {b : Bool} (ha : Models n E a) (hj : (ops[j]?).bind (·.dst) = some t) (hb : E.get t = some (.bool b)) : yielded ops a.tmps j = some b := by
  obtain ⟨v, hv, hu⟩ := ha.get t _ hb
  have := cn_bool hu
  subst this
  simp [yielded, hj, hv]
theorem VL.no {o : Oper} {rest : List Oper} {d j t : Nat} {b b' : Bool} (hg : o.guard = some (j, b)) (hj : (ops[j]?).bind (·.dst) = some t) (hb : E.get t = some (.bool b')) (hne : (b' == b) = false) (hd : o.dst = some d) (hdn : d < n)
    (h : VL P n w0 O ((d, undef) :: E) ops Q rest) : VL P n w0 O E ops Q (o :: rest) := by
  intro a w ha hw
  refine wpList_step fun K hK => ?_
  rw [if_neg (by simp [Region.wanted, hg, yielded_of ha hj hb]; intro e; subst e; simp at hne)]
  exact hK _ _ (h _ _ (by rw [hd]; exact ha.put hdn (by simp [undef, cn])) hw)
theorem Env.get_shadow (t : Nat) (u : Value) (E : Env) (h : E.get t = some u) (s : Nat) : Env.get ((t, u) :: E) s = E.get s := by
  simp only [Env.get]
  cases hb : Nat.beq t s with
  | true =>
    have e : t = s := Nat.eq_of_beq_eq_true hb
    subst e
    exact h.symm
  | false => rfl
/-- A test that is not decided: both ways. -/
theorem VX.split {R : Act → World → Prop} (t : Nat) (b : Bool) (hb : E.get t = some (.bool b)) (ht : b = true → VX n w0 O ((t, .bool true) :: E) R) (hf : b = false → VX n w0 O ((t, .bool false) :: E) R) : VX n w0 O E R := by
  cases b with
  | true => exact (ht rfl).mono (fun s u hs => by rwa [Env.get_shadow t _ E hb s] at hs) (fun _ h => h)
  | false => exact (hf rfl).mono (fun s u hs => by rwa [Env.get_shadow t _ E hb s] at hs) (fun _ h => h)
theorem VE.then_wp {y : Code} (h : V P n w0 O E y Q) : VE n w0 O E (Exit.then (y.wp P Q) Q) .normal := h
theorem VE.then_exit {K : Act → World → Prop} {id : Nat} (h : VE n w0 O E Q (.exit id)) : VE n w0 O E (Exit.then K Q) (.exit id) := h
theorem VE.then_ret {K : Act → World → Prop} (h : VE n w0 O E Q .ret) : VE n w0 O E (Exit.then K Q) .ret := h
theorem VE.block_normal {id : Nat} (h : VE n w0 O E Q .normal) : VE n w0 O E (Exit.inBlock id Q) .normal := h
theorem VE.block_ret {id : Nat} (h : VE n w0 O E Q .ret) : VE n w0 O E (Exit.inBlock id Q) .ret := h
theorem VE.block_here {id : Nat} (h : VE n w0 O E Q .normal) : VE n w0 O E (Exit.inBlock id Q) (.exit id) := fun a w ha hw => by simpa [Exit.inBlock] using h a w ha hw
theorem VE.block_on {id id' : Nat} (hne : Nat.beq id' id = false) (h : VE n w0 O E Q (.exit id')) : VE n w0 O E (Exit.inBlock id Q) (.exit id') := fun a w ha hw => by
  have : id' ≠ id := by intro e; subst e; simp at hne
  simpa [Exit.inBlock, this] using h a w ha hw
theorem V.loop {G : Type} {body : Code} (I : G → Prop) (Og : G → List Ent) (Ev' : G → Env) (Ec : Env) (μ : G → Nat) (g0 : G)
    (hE : ∀ t u, Env.get (Ev' g0 ++ Ec) t = some u → E.get t = some u) (hO : ∀ w, Hp w0 O w → Hp w0 (Og g0) w) (h0 : I g0)
    (round : ∀ g, I g → V P n w0 (Og g) (Ev' g ++ Ec) body (Exit.then (fun a w => ∃ g', I g' ∧ Models n (Ev' g' ++ Ec) a ∧ Hp w0 (Og g') w ∧ μ g' < μ g) Q)) :
    V P n w0 O E (.loop body) Q := by
  intro a w ha hw
  intro b k cs
  -- the measure is kept with the ghost
  have key : ∀ m (g : G), μ g = m → I g → ∀ a w, Models n (Ev' g ++ Ec) a → Hp w0 (Og g) w →
      ∃ e a' w', Q e a' w' ∧ Arrives P (lone (b.at a (.code body :: .inLoop body :: k)) cs w) b k cs e a' w' := by
    intro m
    induction m using Nat.strongRecOn with
    | _ m ih =>
      intro g hm hg a w ha hw
      obtain ⟨e, a₁, w₁, hq, harr⟩ := round g hg a w ha hw b (.inLoop body :: k) cs
      cases e with
      | normal =>
        obtain ⟨g', hg', ha', hw', hlt⟩ := hq
        obtain ⟨e₂, a₂, w₂, hq₂, harr₂⟩ := ih (μ g') (hm ▸ hlt) g' rfl hg' a₁ w₁ ha' hw'
        exact ⟨e₂, a₂, w₂, hq₂, .of_steps (Steps.trans harr (.one step_inLoop)) harr₂⟩
      | exit id => exact ⟨_, a₁, w₁, hq, .pass (x := .inLoop body) rfl (fun _ _ => .inl (by simp)) harr⟩
      | goto l => exact ⟨_, a₁, w₁, hq, .pass (x := .inLoop body) rfl (fun _ _ => .inl (by simp)) harr⟩
      | ret => exact ⟨_, a₁, w₁, hq, .pass (x := .inLoop body) rfl (fun _ _ => .inl (by simp)) harr⟩
      | panic ch => exact ⟨_, a₁, w₁, hq, .pass (x := .inLoop body) rfl (fun _ _ => .inl (by simp)) harr⟩
      | outgrown => exact ⟨_, a₁, w₁, hq, .pass (x := .inLoop body) rfl (fun _ _ => .inl (by simp)) harr⟩
  obtain ⟨e, a', w', hq, harr⟩ := key _ g0 rfl h0 a w (ha.mono hE) (hO w hw)
  exact ⟨e, a', w', hq, .of_steps (.one step_loop) harr⟩
end
end Go.Proofs.Ytfkblhlkeglilaa

namespace Go.Proofs.Ytfkblhlkeglilaa
open Go.RowKit
theorem cb_of_num {k : FloatKind} {b : Nat} (h : fnan k b = false) (_ : b < 2 ^ k.format.width) : cb k b = b := by simp [cb, h]
theorem cb_num {k : FloatKind} {b : Nat} (h : fnan k b = false) : cb k b = b := by simp [cb, h]
theorem cb_of_nan {k : FloatKind} {b : Nat} (h : fnan k b = true) : cb k b = qn k := by simp [cb, h]
theorem fnan_qn (k : FloatKind) : fnan k (qn k) = true := by cases k <;> decide
theorem fnan_cb (k : FloatKind) (b : Nat) : fnan k (cb k b) = fnan k b := by
  cases h : fnan k b
  · rw [cb_num h, h]
  · rw [cb_of_nan h, fnan_qn]
theorem read_cb {k : FloatKind} {b : Nat} (h : fnan k b = false) : k.format.read (cb k b) = k.format.read b := by rw [cb_num h]
theorem read_nan {k : FloatKind} {b : Nat} (h : fnan k b = true) : ∃ s f, k.format.read b = .nan s f := by
  unfold fnan FloatKind.decode at h
  cases hr : k.format.read b <;> simp [hr, Ieee.Datum.isNaN] at h ⊢
theorem read_num {k : FloatKind} {b : Nat} (h : fnan k b = false) : (k.format.read b).isNaN = false := h
/-- the operations that hand back a datum: never a NaN -/
theorem sum_num {x y d : Ieee.Datum} (h : x.sum y = some d) : d.isNaN = false := by
  cases x <;> cases y <;> simp [Ieee.Datum.sum] at h <;> first | (subst h; rfl) | (obtain ⟨_, h⟩ := h; subst h; rfl)
theorem product_num {x y d : Ieee.Datum} (h : x.product y = some d) : d.isNaN = false := by
  cases x <;> cases y <;> simp [Ieee.Datum.product] at h <;> first | (subst h; rfl) | (obtain ⟨_, h⟩ := h; subst h; rfl)
theorem quotient_num {n : Nat} {x y d : Ieee.Datum} (h : x.quotient n y = some d) : d.isNaN = false := by
  cases x <;> cases y <;> simp only [Ieee.Datum.quotient] at h <;> try (first | (cases h; done) | (cases h; rfl))
  split at h
  · split at h
    · cases h
    · cases h; rfl
  · cases h; rfl
theorem root_num {n : Nat} {x d : Ieee.Datum} (h : x.root n = some d) : d.isNaN = false := by
  cases x <;> simp only [Ieee.Datum.root] at h
  · split at h
    · cases h; rfl
    · split at h
      · cases h
      · cases h; rfl
  · split at h
    · cases h
    · cases h; rfl
  · cases h
theorem read_word (f : Ieee.Format) (neg : Bool) {rung : Nat} (h : rung ≤ f.infRung) : (f.read (f.word neg rung)).isNaN = false := by
  have hlt := Ieee.Format.infRung_lt f
  have hs : 0 < f.signWeight := by omega
  have e : f.word neg rung % f.signWeight = rung := by
    unfold Ieee.Format.word
    split
    · rw [Nat.add_mod_left, Nat.mod_eq_of_lt (by omega)]
    · rw [Nat.mod_eq_of_lt (by omega)]
  unfold Ieee.Format.read
  simp only [e]
  split
  · rfl
  · split
    · rfl
    · split
      · rfl
      · omega
theorem write_num (f : Ieee.Format) {d : Ieee.Datum} (h : d.isNaN = false) : (f.read (f.write d)).isNaN = false := by
  cases d with
  | number s m e =>
    simp only [Ieee.Format.write, Ieee.Format.nearest]
    split
    · exact read_word f s (Nat.zero_le _)
    · exact read_word f s (Nat.min_le_right _ _)
  | infinity s => exact read_word f s (Nat.le_refl _)
  | nan s f => simp [Ieee.Datum.isNaN] at h
/-- An operation on two floats, on canonical words. -/
def fop (op : BinOp) (k : FloatKind) (x y : Nat) : Nat := (floatBits op k x y).getD (qn k)
@[reducible] def fdiv (k : FloatKind) := fop .quo k
theorem floatBits_num {op : BinOp} {k : FloatKind} {x y r : Nat} (h : floatBits op k x y = some r) : fnan k r = false := by
  unfold floatBits Ieee.Format.add Ieee.Format.sub Ieee.Format.mul Ieee.Format.div at h
  unfold fnan FloatKind.decode
  split at h
  · obtain ⟨d, hd, rfl⟩ := Option.map_eq_some_iff.1 h; exact write_num _ (sum_num hd)
  · obtain ⟨d, hd, rfl⟩ := Option.map_eq_some_iff.1 h; exact write_num _ (sum_num hd)
  · obtain ⟨d, hd, rfl⟩ := Option.map_eq_some_iff.1 h; exact write_num _ (product_num hd)
  · obtain ⟨d, hd, rfl⟩ := Option.map_eq_some_iff.1 h; exact write_num _ (quotient_num hd)
  · cases h
theorem sum_nan_left (s : Bool) (f : Nat) (y : Ieee.Datum) : (Ieee.Datum.nan s f).sum y = none := by cases y <;> rfl
theorem sum_nan_right (s : Bool) (f : Nat) (y : Ieee.Datum) : y.sum (Ieee.Datum.nan s f) = none := by cases y <;> rfl
theorem product_nan_left (s : Bool) (f : Nat) (y : Ieee.Datum) : (Ieee.Datum.nan s f).product y = none := by cases y <;> rfl
theorem product_nan_right (s : Bool) (f : Nat) (y : Ieee.Datum) : y.product (Ieee.Datum.nan s f) = none := by cases y <;> rfl
theorem quotient_nan_left (n : Nat) (s : Bool) (f : Nat) (y : Ieee.Datum) : (Ieee.Datum.nan s f).quotient n y = none := by cases y <;> rfl
theorem quotient_nan_right (n : Nat) (s : Bool) (f : Nat) (y : Ieee.Datum) : y.quotient n (Ieee.Datum.nan s f) = none := by cases y <;> rfl
theorem floatBits_nan_left {op : BinOp} {k : FloatKind} {x y : Nat} (h : fnan k x = true) : floatBits op k x y = none := by
  obtain ⟨s, f, hr⟩ := read_nan h
  unfold floatBits Ieee.Format.add Ieee.Format.sub Ieee.Format.mul Ieee.Format.div
  rw [hr]
  cases op <;> simp only [sum_nan_left, product_nan_left, quotient_nan_left, Option.map_none]
theorem floatBits_nan_right {op : BinOp} {k : FloatKind} {x y : Nat} (h : fnan k y = true) : floatBits op k x y = none := by
  obtain ⟨s, f, hr⟩ := read_nan h
  unfold floatBits Ieee.Format.add Ieee.Format.sub Ieee.Format.mul Ieee.Format.div
  rw [hr]
  cases op <;> simp only [sum_nan_right, product_nan_right, quotient_nan_right, Option.map_none, Ieee.Datum.opposite]
theorem floatBits_read {op : BinOp} {k : FloatKind} {x y x' y' : Nat} (hx : k.format.read x' = k.format.read x) (hy : k.format.read y' = k.format.read y) : floatBits op k x' y' = floatBits op k x y := by
  unfold floatBits Ieee.Format.add Ieee.Format.sub Ieee.Format.mul Ieee.Format.div
  rw [hx, hy]
theorem floatBits_cb (op : BinOp) (k : FloatKind) (x y : Nat) : floatBits op k (cb k x) (cb k y) = floatBits op k x y := by
  cases hx : fnan k x
  · cases hy : fnan k y
    · exact floatBits_read (read_cb hx) (read_cb hy)
    · rw [floatBits_nan_right (x := cb k x) (by rw [fnan_cb, hy]), floatBits_nan_right hy]
  · rw [floatBits_nan_left (by rw [fnan_cb, hx]), floatBits_nan_left hx]
theorem floatBits_lt {op : BinOp} {k : FloatKind} {x y r : Nat} (h : floatBits op k x y = some r) : r < 2 ^ k.format.width := by
  unfold floatBits at h
  split at h
  · exact k.format.add_lt h
  · exact k.format.sub_lt h
  · exact k.format.mul_lt h
  · exact k.format.div_lt h
  · cases h
theorem cut_nan (k : FloatKind) (x y t : Nat) : fnan k ((Question.nanBits k x y).cut t) = true := by
  cases k
  · have h : ∀ r : Nat, 2139095041 ≤ r % 2147483648 → (Ieee.single.read r).isNaN = true := by
      intro r hr
      have hsw : Ieee.single.signWeight = 2147483648 := by decide
      have hinf : Ieee.single.infRung = 2139095040 := by decide
      have hbin : Ieee.single.binade = 8388608 := by decide
      unfold Ieee.Format.read
      simp only [hsw, hinf, hbin]
      rw [if_neg (by omega), if_neg (by omega), if_neg (by omega)]
      rfl
    refine h _ ?_
    simp only [Question.cut]
    rcases Nat.mod_two_eq_zero_or_one t with ht | ht <;> rw [ht] <;> omega
  · have h : ∀ r : Nat, 9218868437227405313 ≤ r % 9223372036854775808 → (Ieee.double.read r).isNaN = true := by
      intro r hr
      have hsw : Ieee.double.signWeight = 9223372036854775808 := by decide
      have hinf : Ieee.double.infRung = 9218868437227405312 := by decide
      have hbin : Ieee.double.binade = 4503599627370496 := by decide
      unfold Ieee.Format.read
      simp only [hsw, hinf, hbin]
      rw [if_neg (by omega), if_neg (by omega), if_neg (by omega)]
      rfl
    refine h _ ?_
    simp only [Question.cut]
    rcases Nat.mod_two_eq_zero_or_one t with ht | ht <;> rw [ht] <;> omega
theorem cut_conv_nan (k : FloatKind) (x t : Nat) : fnan k ((Question.nanConv k x).cut t) = true := by
  have := cut_nan k 0 0 t
  cases k <;> exact this
theorem fop_cb (op : BinOp) (k : FloatKind) (x y : Nat) : fop op k (cb k x) (cb k y) = fop op k x y := by rw [fop, floatBits_cb, fop]
theorem cb_fop (op : BinOp) (k : FloatKind) (x y : Nat) : cb k (fop op k x y) = fop op k x y := by
  unfold fop
  cases h : floatBits op k x y with
  | none => rw [Option.getD_none, cb_of_nan (fnan_qn k)]
  | some r => rw [Option.getD_some, cb_of_num (floatBits_num h) (floatBits_lt h)]
theorem order_nan_left {k : FloatKind} {x y : Nat} (h : fnan k x = true) : k.format.order x y = none := by
  obtain ⟨s, f, hr⟩ := read_nan h
  unfold Ieee.Format.order
  rw [hr]; cases k.format.read y <;> rfl
theorem order_nan_right {k : FloatKind} {x y : Nat} (h : fnan k y = true) : k.format.order x y = none := by
  obtain ⟨s, f, hr⟩ := read_nan h
  unfold Ieee.Format.order
  rw [hr]; cases k.format.read x <;> rfl
theorem order_cb (k : FloatKind) (x y : Nat) : k.format.order (cb k x) (cb k y) = k.format.order x y := by
  cases hx : fnan k x
  · cases hy : fnan k y
    · unfold Ieee.Format.order; rw [read_cb hx, read_cb hy]
    · rw [order_nan_right (by rw [fnan_cb, hy]), order_nan_right hy]
  · rw [order_nan_left (by rw [fnan_cb, hx]), order_nan_left hx]
/-- A comparison of two floats. -/
def fcmp (op : BinOp) (k : FloatKind) (x y : Nat) : Bool :=
  match op with
  | .eql => k.format.order x y == some .eq
  | .neq => k.format.order x y != some .eq
  | .lss => k.format.order x y == some .lt
  | .leq => k.format.order x y == some .lt || k.format.order x y == some .eq
  | .gtr => k.format.order x y == some .gt
  | .geq => k.format.order x y == some .gt || k.format.order x y == some .eq
  | _ => false
@[reducible] def feq (k : FloatKind) := fcmp .eql k
theorem fcmp_cb (op : BinOp) (k : FloatKind) (x y : Nat) : fcmp op k (cb k x) (cb k y) = fcmp op k x y := by
  unfold fcmp; rw [order_cb]
/-- One kind to the other. -/
def fconv (src dst : FloatKind) (b : Nat) : Nat :=
  if src = dst then b else
  match src.decode b with
  | .nan _ _ => qn dst
  | d => dst.encode d
/-- A finite number that the other kind has not the room for. -/
def fover (src dst : FloatKind) (b : Nat) : Bool :=
  if src = dst then false else
  match src.decode b with
  | .number s m e => (dst.decode (dst.encode (.number s m e))).isInfinity
  | _ => false
theorem decode_cb (k : FloatKind) (x : Nat) : (k.decode (cb k x) = k.decode x ∧ fnan k x = false) ∨ (∃ s f s' f', k.decode x = .nan s f ∧ k.decode (cb k x) = .nan s' f') := by
  cases hx : fnan k x
  · exact .inl ⟨read_cb hx, rfl⟩
  · obtain ⟨s, f, hr⟩ := read_nan hx
    obtain ⟨s', f', hr'⟩ := read_nan (k := k) (b := cb k x) (by rw [fnan_cb, hx])
    exact .inr ⟨s, f, s', f', hr, hr'⟩
theorem fconv_cb (src dst : FloatKind) (x : Nat) (h : src ≠ dst) : fconv src dst (cb src x) = fconv src dst x := by
  unfold fconv
  rw [if_neg h, if_neg h]
  rcases decode_cb src x with ⟨h1, _⟩ | ⟨s, f, s', f', h1, h2⟩
  · rw [h1]
  · rw [h1, h2]
theorem fover_cb (src dst : FloatKind) (x : Nat) : fover src dst (cb src x) = fover src dst x := by
  unfold fover
  rcases decode_cb src x with ⟨h1, _⟩ | ⟨s, f, s', f', h1, h2⟩
  · rw [h1]
  · rw [h1, h2]
theorem encode_lt (k : FloatKind) (d : Ieee.Datum) : k.encode d < 2 ^ k.format.width := k.format.write_lt d
theorem qn_lt (k : FloatKind) : qn k < 2 ^ k.format.width := by cases k <;> decide
theorem fop_lt (op : BinOp) (k : FloatKind) (x y : Nat) : fop op k x y < 2 ^ k.format.width := by
  unfold fop
  cases h : floatBits op k x y with
  | some r => exact floatBits_lt h
  | none => exact qn_lt k
/-- The opposite. -/
def fneg (k : FloatKind) (x : Nat) : Nat := cb k (Op.negFloat k x)
end Go.Proofs.Ytfkblhlkeglilaa

namespace Go.Proofs.Ytfkblhlkeglilaa
open Go.RowKit
/-- quiet: one canonical value; nothing that was there turns -/
def YQ (P : Program) (w0 : World) (O : List Ent) (E : Env) (o : Oper) (u : Value) : Prop :=
  ∀ ρ w, Ev E o.op ρ → Hp w0 O w → ResOk P (fun v w' => cn v = u ∧ Below w.heap.size w w') ((execOp ρ o).run P w)
/-- .. in every world whatever -/
def YR (P : Program) (E : Env) (o : Oper) (u : Value) : Prop :=
  ∀ ρ w, Ev E o.op ρ → ResOk P (fun v w' => cn v = u ∧ Below w.heap.size w w') ((execOp ρ o).run P w)
/-- something new is made beside what is there -/
def YN (P : Program) (w0 : World) (O : List Ent) (E : Env) (o : Oper) {X : Type} (u : X → Value) (N : X → List Ent) : Prop :=
  ∀ ρ w, Ev E o.op ρ → Hp w0 O w → ResOk P (fun v w' => ∃ x, cn v = u x ∧ Below w.heap.size w w' ∧ (∀ e ∈ N x, e.at w.heap.size w') ∧ (N x).Pairwise Ent.apart) ((execOp ρ o).run P w)
/-- what the call owns turns -/
def YC (P : Program) (w0 : World) (O : List Ent) (E : Env) (o : Oper) {X : Type} (u : X → Value) (O' : X → List Ent) : Prop :=
  ∀ ρ w F, Ev E o.op ρ → Hp w0 (F ++ O) w → ResOk P (fun v w' => ∃ x, cn v = u x ∧ Hp w0 (F ++ O' x) w') ((execOp ρ o).run P w)
section
variable {P : Program} {n : Nat} {w0 : World} {O : List Ent} {E : Env} {Q : Exit → Act → World → Prop} {ops : Array Oper} {o : Oper} {rest : List Oper} {d : Nat}
theorem YR.q {u : Value} (h : YR P E o u) : YQ P w0 O E o u := fun ρ w hE _ => h ρ w hE
/-- The operation comes to its turn: no guard, or one that is met. -/
def Wants (ops : Array Oper) (E : Env) (o : Oper) : Prop :=
  o.guard = none ∨ ∃ j b t, o.guard = some (j, b) ∧ (ops[j]?).bind (·.dst) = some t ∧ E.get t = some (.bool b)
theorem Wants.wanted {a : Act} (h : Wants ops E o) (ha : Models n E a) : Region.wanted o (yielded ops a.tmps) = true := by
  rcases h with h | ⟨j, b, t, h1, h2, h3⟩
  · simp [Region.wanted, h]
  · simp [Region.wanted, h1, yielded_of ha h2 h3]
theorem VL.q {u : Value} (hg : Wants ops E o) (hd : o.dst = some d) (hdn : d < n) (hy : YQ P w0 O E o u) (h : VL P n w0 O ((d, u) :: E) ops Q rest) : VL P n w0 O E ops Q (o :: rest) := by
  intro a w ha hw
  refine wpList_step fun K hK => ?_
  rw [if_pos (hg.wanted ha)]
  unfold Oper.wp
  refine (hy a.eval w (ha.ev _) hw).upon fun v w' hv => hK _ _ ?_
  exact h _ _ (by rw [hd]; exact ha.put hdn hv.1) (hw.ext hv.2)
theorem VL.r {u : Value} (hg : Wants ops E o) (hd : o.dst = some d) (hdn : d < n) (hy : YR P E o u) (h : VL P n w0 O ((d, u) :: E) ops Q rest) : VL P n w0 O E ops Q (o :: rest) := VL.q hg hd hdn hy.q h
theorem VL.new {X : Type} {u : X → Value} {N : X → List Ent} (hg : Wants ops E o) (hd : o.dst = some d) (hdn : d < n) (hy : YN P w0 O E o u N) (h : ∀ x, VL P n w0 (N x ++ O) ((d, u x) :: E) ops Q rest) : VL P n w0 O E ops Q (o :: rest) := by
  intro a w ha hw
  refine wpList_step fun K hK => ?_
  rw [if_pos (hg.wanted ha)]
  unfold Oper.wp
  refine (hy a.eval w (ha.ev _) hw).upon fun v w' ⟨x, h1, h2, h3, h4⟩ => hK _ _ ?_
  exact h x _ _ (by rw [hd]; exact ha.put hdn h1) (hw.news h2 h3 h4)
theorem VL.new1 {X : Type} {u : X → Value} {N : X → Ent} (hg : Wants ops E o) (hd : o.dst = some d) (hdn : d < n) (hy : YN P w0 O E o u (fun x => [N x])) (h : ∀ x, VL P n w0 (N x :: O) ((d, u x) :: E) ops Q rest) : VL P n w0 O E ops Q (o :: rest) := VL.new hg hd hdn hy h
theorem VL.c {X : Type} {u : X → Value} {O' : X → List Ent} (hg : Wants ops E o) (hd : o.dst = some d) (hdn : d < n) (hy : YC P w0 O E o u O') (h : ∀ x, VL P n w0 (O' x) ((d, u x) :: E) ops Q rest) : VL P n w0 O E ops Q (o :: rest) := by
  intro a w ha hw
  refine wpList_step fun K hK => ?_
  rw [if_pos (hg.wanted ha)]
  unfold Oper.wp
  refine (hy a.eval w [] (ha.ev _) hw).upon fun v w' ⟨x, h1, h2⟩ => hK _ _ ?_
  exact h x _ _ (by rw [hd]; exact ha.put hdn h1) h2
/-- .. without a place for a value (a store) -/
theorem VL.s {X : Type} {u : X → Value} {O' : X → List Ent} (hg : Wants ops E o) (hd : o.dst = none) (hy : YC P w0 O E o u O') (h : ∀ x, VL P n w0 (O' x) E ops Q rest) : VL P n w0 O E ops Q (o :: rest) := by
  intro a w ha hw
  refine wpList_step fun K hK => ?_
  rw [if_pos (hg.wanted ha)]
  unfold Oper.wp
  refine (hy a.eval w [] (ha.ev _) hw).upon fun v w' ⟨x, h1, h2⟩ => hK _ _ ?_
  exact h x _ _ (by rw [hd]; exact ha) h2
theorem Ev.get {op : Op} {ρ : Operand → Value} (h : Ev E op ρ) {x : Operand} {u : Value} (hm : x ∈ op.operands) (hx : E.opd x = some u) : cn (ρ x) = u := h x hm u hx
theorem yr_of {u : Value} (h : ∀ ρ w, Ev E o.op ρ → ∃ v, (execOp ρ o).run P w = .ok (.value v) w ∧ cn v = u) : YR P E o u := fun ρ w hE => by
  obtain ⟨v, h1, h2⟩ := h ρ w hE
  rw [h1]; exact ⟨h2, Below.refl _ _⟩
theorem yr_move {x : Operand} {u : Value} (ho : o.op = .move x) (hx : E.opd x = some u) : YR P E o u := yr_of fun ρ w hE =>
  ⟨ρ x, by simp [execOp, ho], hE.get (by simp [ho, Op.operands]) hx⟩
theorem yr_assign {x : Operand} {u : Value} (ho : o.op = .assign x) (hx : E.opd x = some u) : YR P E o u := yr_of fun ρ w hE =>
  ⟨ρ x, by simp [execOp, ho], hE.get (by simp [ho, Op.operands]) hx⟩
theorem yr_pick_t {c x y : Operand} {u : Value} (ho : o.op = .pick c x y) (hc : E.opd c = some (.bool true)) (hx : E.opd x = some u) : YR P E o u := yr_of fun ρ w hE =>
  ⟨ρ x, by simp [execOp, ho, cn_bool (hE.get (by simp [ho, Op.operands]) hc), asBool], hE.get (by simp [ho, Op.operands]) hx⟩
theorem yr_pick_f {c x y : Operand} {u : Value} (ho : o.op = .pick c x y) (hc : E.opd c = some (.bool false)) (hx : E.opd y = some u) : YR P E o u := yr_of fun ρ w hE =>
  ⟨ρ y, by simp [execOp, ho, cn_bool (hE.get (by simp [ho, Op.operands]) hc), asBool], hE.get (by simp [ho, Op.operands]) hx⟩
theorem yr_extract {t : Operand} {i : Nat} {us : Array Value} {u : Value} (ho : o.op = .extract t i) (ht : E.opd t = some (.tuple us)) (hu : us[i]? = some u) (hn : ∀ z, u ≠ .tuple z) : YR P E o u := yr_of fun ρ w hE => by
  obtain ⟨cs, h1, h2⟩ := cn_tuple (hE.get (x := t) (by simp [ho, Op.operands]) ht)
  subst h2
  simp only [Array.getElem?_map, Option.map_eq_some_iff] at hu
  obtain ⟨v, hv, hu⟩ := hu
  refine ⟨v, by simp [execOp, ho, h1, Instr.extract, hv], ?_⟩
  cases v <;> simp [cn, cn1, cn0] at hu ⊢ <;> try exact hu
  exact absurd hu.symm (hn _)
theorem yr_not {t : TypeId} {x : Operand} {b : Bool} (ho : o.op = .unOp .not t x) (hx : E.opd x = some (.bool b)) : YR P E o (.bool !b) := yr_of fun ρ w hE =>
  ⟨.bool !b, by simp [execOp, ho, cn_bool (hE.get (x := x) (by simp [ho, Op.operands]) hx), Op.unary], rfl⟩
theorem yr_func {f : Fn} {captured : Array Operand} {us : Array Value} (ho : o.op = .makeFunc f #[] captured) (hf : ∀ ρ, Ev E o.op ρ → captured.map ρ = us) (hrun : ∀ w, (Instr.makeFunc f #[] us).run P w = .ok (.func f #[] us) w) : YR P E o (.func f #[] us) := yr_of fun ρ w hE =>
  ⟨.func f #[] us, by simp [execOp, ho, hf ρ hE, hrun], rfl⟩
theorem yr_int {op : BinOp} {t ty : TypeId} {x y : Operand} {k : IntKind} {a b r : Int} (ho : o.op = .binOp op t x y ty) (hx : E.opd x = some (.int k a)) (hy : E.opd y = some (.int k b))
    (hr : (op = .add ∧ k.wrap (a + b) = r) ∨ (op = .sub ∧ k.wrap (a - b) = r) ∨ (op = .mul ∧ k.wrap (a * b) = r)) : YR P E o (.int k r) := yr_of fun ρ w hE => by
  have h1 := cn_int (hE.get (x := x) (by simp [ho, Op.operands]) hx)
  have h2 := cn_int (hE.get (x := y) (by simp [ho, Op.operands]) hy)
  refine ⟨.int k r, ?_, rfl⟩
  rcases hr with ⟨rfl, hr⟩ | ⟨rfl, hr⟩ | ⟨rfl, hr⟩ <;> simp [execOp, ho, h1, h2, eqGuard, binOp, Op.intArith, hr]
theorem yr_rem {t ty : TypeId} {x y : Operand} {k : IntKind} {a b : Int} (ho : o.op = .binOp .rem t x y ty) (hx : E.opd x = some (.int k a)) (hy : E.opd y = some (.int k b))
    (hb : b ≠ 0) : YR P E o (.int k (a.tmod b)) := yr_of fun ρ w hE => by
  have h1 := cn_int (hE.get (x := x) (by simp [ho, Op.operands]) hx)
  have h2 := cn_int (hE.get (x := y) (by simp [ho, Op.operands]) hy)
  exact ⟨.int k (a.tmod b), by simp [execOp, ho, h1, h2, eqGuard, binOp, Op.intDiv, hb], rfl⟩
def icmp (op : BinOp) (a b : Int) : Bool :=
  match op with
  | .eql => a == b
  | .neq => a != b
  | .lss => decide (a < b)
  | .leq => decide (a ≤ b)
  | .gtr => decide (a > b)
  | .geq => decide (a ≥ b)
  | _ => false
theorem yr_icmp {op : BinOp} {t ty : TypeId} {x y : Operand} {k : IntKind} {a b : Int} (ho : o.op = .binOp op t x y ty) (hop : op = .eql ∨ op = .neq ∨ op = .lss ∨ op = .leq ∨ op = .gtr ∨ op = .geq)
    (hx : E.opd x = some (.int k a)) (hy : E.opd y = some (.int k b)) : YR P E o (.bool (icmp op a b)) := yr_of fun ρ w hE => by
  have h1 := cn_int (hE.get (x := x) (by simp [ho, Op.operands]) hx)
  have h2 := cn_int (hE.get (x := y) (by simp [ho, Op.operands]) hy)
  refine ⟨.bool (icmp op a b), ?_, rfl⟩
  rcases hop with rfl | rfl | rfl | rfl | rfl | rfl <;> simp [execOp, ho, h1, h2, eqGuard, binOp, Op.intCmp, icmp]
theorem below_drew (w : World) (k : Nat) : Below w.heap.size w { w with drawn := k } := ⟨rfl, rfl, rfl, Nat.le_refl _, fun _ _ => rfl⟩
theorem run_farith (op : BinOp) (t : TypeId) (k : FloatKind) (x y : Nat) (hop : op = .add ∨ op = .sub ∨ op = .mul ∨ op = .quo) (w : World) :
    ∃ r w', (binOp op t (.float k x) (.float k y)).run P w = .ok (.float k r) w' ∧ cb k r = fop op k x y ∧ Below w.heap.size w w' := by
  cases h : floatBits op k x y with
  | some r => exact ⟨r, w, run_float_arith w op t k x y r h, by rw [cb_of_num (floatBits_num h) (floatBits_lt h)]; simp [fop, h], Below.refl _ _⟩
  | none =>
    refine ⟨(Question.nanBits k x y).cut (w.tape w.drawn (.nanBits k x y)), { w with drawn := w.drawn + 1 }, ?_, ?_, below_drew _ _⟩
    · unfold floatBits at h
      rcases hop with rfl | rfl | rfl | rfl <;> simp only at h <;> simp [binOp, Op.floatArith, h, choose, Sem.run, Question.forced]
    · rw [cb_of_nan (cut_nan _ _ _ _)]; simp [fop, h]
theorem yr_float {op : BinOp} {t ty : TypeId} {x y : Operand} {k : FloatKind} {a b : Nat} (ho : o.op = .binOp op t x y ty) (hop : op = .add ∨ op = .sub ∨ op = .mul ∨ op = .quo)
    (hx : E.opd x = some (.float k a)) (hy : E.opd y = some (.float k b)) : YR P E o (.float k (fop op k a b)) := fun ρ w hE => by
  obtain ⟨a', h1, rfl⟩ := cn_float (hE.get (x := x) (by simp [ho, Op.operands]) hx)
  obtain ⟨b', h2, rfl⟩ := cn_float (hE.get (x := y) (by simp [ho, Op.operands]) hy)
  obtain ⟨r, w', h3, h4, h5⟩ := run_farith (P := P) op t k a' b' hop w
  have hg : (eqGuard op t x y (ρ x) (ρ y)).run P w = .ok () w := by
    rcases hop with rfl | rfl | rfl | rfl <;> simp [eqGuard]
  simp only [execOp, ho, Sem.run_bind, hg, Result.andThen_ok]
  rw [h1, h2, h3]
  exact ⟨by simp [cn, cn1, cn0, h4, fop_cb], h5⟩
theorem yr_fcmp {op : BinOp} {t ty : TypeId} {x y : Operand} {k : FloatKind} {a b : Nat} (ho : o.op = .binOp op t x y ty) (hop : op = .eql ∨ op = .neq ∨ op = .lss ∨ op = .leq ∨ op = .gtr ∨ op = .geq)
    (hx : E.opd x = some (.float k a)) (hy : E.opd y = some (.float k b)) : YR P E o (.bool (fcmp op k a b)) := yr_of fun ρ w hE => by
  obtain ⟨a', h1, rfl⟩ := cn_float (hE.get (x := x) (by simp [ho, Op.operands]) hx)
  obtain ⟨b', h2, rfl⟩ := cn_float (hE.get (x := y) (by simp [ho, Op.operands]) hy)
  refine ⟨.bool (fcmp op k a' b'), ?_, by rw [fcmp_cb]; rfl⟩
  rcases hop with rfl | rfl | rfl | rfl | rfl | rfl <;> simp [execOp, ho, h1, h2, eqGuard, binOp, Op.floatCmp, fcmp]
theorem negFloat_nan (k : FloatKind) (b : Nat) : fnan k (Op.negFloat k b) = fnan k b := by
  have key : ∀ (f : Ieee.Format) (x : Nat), (f.read (x ^^^ 2 ^ (f.exponentBits + f.fractionBits))).isNaN = (f.read x).isNaN := by
    intro f x
    have hm : (x ^^^ 2 ^ (f.exponentBits + f.fractionBits)) % f.signWeight = x % f.signWeight := by
      unfold Ieee.Format.signWeight
      apply Nat.eq_of_testBit_eq
      intro i
      simp only [Nat.testBit_mod_two_pow, Nat.testBit_xor, Nat.testBit_two_pow]
      by_cases hi : i < f.exponentBits + f.fractionBits
      · have : ¬ f.exponentBits + f.fractionBits = i := by omega
        simp [hi, this]
      · simp [hi]
    unfold Ieee.Format.read
    simp only [hm]
    split
    · rfl
    · split
      · rfl
      · split <;> rfl
  exact key k.format b
theorem fneg_cb (k : FloatKind) (x : Nat) : fneg k (cb k x) = fneg k x := by
  unfold fneg
  cases h : fnan k x
  · have h1 : fnan k (Op.negFloat k (cb k x)) = false := by rw [negFloat_nan, fnan_cb, h]
    have h2 : fnan k (Op.negFloat k x) = false := by rw [negFloat_nan, h]
    rw [cb_num h1, cb_num h2, cb_num h]
  · rw [cb_of_nan (b := Op.negFloat k (cb k x)) (by rw [negFloat_nan, fnan_cb, h]), cb_of_nan (by rw [negFloat_nan, h])]
theorem yr_fneg {t : TypeId} {x : Operand} {k : FloatKind} {a : Nat} (ho : o.op = .unOp .neg t x) (hx : E.opd x = some (.float k a)) : YR P E o (.float k (fneg k a)) := yr_of fun ρ w hE => by
  obtain ⟨a', h1, rfl⟩ := cn_float (hE.get (x := x) (by simp [ho, Op.operands]) hx)
  exact ⟨.float k (Op.negFloat k a'), by simp [execOp, ho, h1, Op.unary], by rw [fneg_cb]; rfl⟩
theorem yr_fconv {src dst : TypeId} {x : Operand} {s k : FloatKind} {a : Nat} (ho : o.op = .convert src dst x) (hs : P.underlying src = some (.float s)) (hd : P.underlying dst = some (.float k))
    (hne : s ≠ k) (hx : E.opd x = some (.float s a)) (hv : fover s k a = false) : YR P E o (.float k (fconv s k a)) := fun ρ w hE => by
  obtain ⟨a', h1, rfl⟩ := cn_float (hE.get (x := x) (by simp [ho, Op.operands]) hx)
  rw [fover_cb] at hv
  rw [fconv_cb _ _ _ hne]
  simp only [execOp, ho, convert, Sem.run_bind, run_underlying hs, run_underlying hd, h1, Result.andThen_ok, Conv.floatToFloat, hne, if_false]
  unfold fover at hv
  unfold fconv
  rw [if_neg hne] at hv ⊢
  cases hr : s.decode a' with
  | nan sg f =>
    rw [hr] at hv
    simp [choose, Sem.run, Question.forced, ResOk, cn, cn1, cn0]
    exact ⟨cb_of_nan (cut_conv_nan _ _ _), below_drew _ _⟩
  | infinity sg => simp [ResOk, cn, cn1, cn0, Below.refl]; exact cb_of_num (write_num k.format (d := .infinity sg) rfl) (encode_lt _ _)
  | number sg m e =>
    rw [hr] at hv
    simp [hv, ResOk, cn, cn1, cn0, Below.refl]
    exact cb_of_num (write_num k.format (d := .number sg m e) rfl) (encode_lt _ _)
theorem nearest_num (k : FloatKind) (i : Int) : fnan k (k.nearest i) = false := write_num k.format (d := .number (i < 0) i.natAbs 0) rfl
theorem yr_ofInt {src dst : TypeId} {x : Operand} {q : IntKind} {k : FloatKind} {a : Int} (ho : o.op = .convert src dst x) (hs : P.underlying src = some (.int q)) (hd : P.underlying dst = some (.float k))
    (hx : E.opd x = some (.int q a)) : YR P E o (.float k (k.nearest a)) := yr_of fun ρ w hE => by
  have h1 := cn_int (hE.get (x := x) (by simp [ho, Op.operands]) hx)
  exact ⟨.float k (k.nearest a), by simp [execOp, ho, convert, run_underlying hs, run_underlying hd, h1, Conv.intToFloat], by simp [cn, cn1, cn0, cb_of_num (nearest_num k a) (encode_lt _ _)]⟩
theorem yr_toInt {src dst : TypeId} {x : Operand} {k : IntKind} {s : FloatKind} {a : Nat} {i : Int} (ho : o.op = .convert src dst x) (hs : P.underlying src = some (.float s)) (hd : P.underlying dst = some (.int k))
    (hx : E.opd x = some (.float s a)) (hi : floatToIntVal s a k = some i) : YR P E o (.int k i) := yr_of fun ρ w hE => by
  obtain ⟨a', h1, rfl⟩ := cn_float (hE.get (x := x) (by simp [ho, Op.operands]) hx)
  have hi' : floatToIntVal s a' k = some i := by
    unfold floatToIntVal at hi ⊢
    rcases decode_cb s a' with ⟨h1, _⟩ | ⟨sg, f, s', f', h1, h2⟩
    · rwa [h1] at hi
    · rw [h2] at hi; simp [Ieee.Datum.toInt, Ieee.Datum.integral] at hi
  exact ⟨.int k i, by simp [execOp, ho, run_convert_float_int w src dst s k a' i (by simp [hs]) hd hi', h1], rfl⟩
theorem yr_intConv {src dst : TypeId} {x : Operand} {q k : IntKind} {a r : Int} (ho : o.op = .convert src dst x) (hs : P.underlying src = some (.int q)) (hd : P.underlying dst = some (.int k))
    (hx : E.opd x = some (.int q a)) (hr : k.wrap a = r) : YR P E o (.int k r) := yr_of fun ρ w hE => by
  have h1 := cn_int (hE.get (x := x) (by simp [ho, Op.operands]) hx)
  exact ⟨.int k r, by simp [execOp, ho, convert, run_underlying hs, run_underlying hd, h1, Conv.intToInt, hr], rfl⟩
theorem yr_len {x : Operand} {t e : TypeId} {a : Option Addr} {m c : Nat} (ho : o.op = .call ⟨.builtin .len, #[x], #[t]⟩) (ht : P.underlying t = some (.slice e)) (hx : E.opd x = some (.slice a m c)) : YR P E o (.int .i64 m) := yr_of fun ρ w hE => by
  have h1 := cn_slice (hE.get (x := x) (by simp [ho, Op.operands, Call.operands]) hx)
  exact ⟨.int .i64 m, by simp [execOp, ho, h1, resolve, invoke, builtin, Builtin.len_, run_underlying ht, goInt], rfl⟩
/-- The address k cells behind a. -/
def adr (a : Option Addr) (k : Nat) : Addr :=
  match a with
  | some p => ⟨p.block, p.off + k, none⟩
  | none => ⟨0, k, none⟩
theorem adr_add {p : Addr} (hp : p.spot = none) (k : Nat) : p.add k = adr (some p) k := by
  unfold Addr.add adr
  split
  · rename_i h; subst h; cases p; simp at hp ⊢; exact hp
  · rfl
theorem adr_adr (a : Option Addr) (k m : Nat) : (adr a k).add m = adr a (k + m) := by
  unfold adr Addr.add
  cases a <;> (split <;> (try rename_i h; subst h) <;> simp [Nat.add_assoc])
theorem info_size {t : TypeId} {z : Nat} (h : (P.info? t).map (·.size) = some z) (w : World) : (sizeOf t).run P w = .ok z w := by
  obtain ⟨i, hi, rfl⟩ := Option.map_eq_some_iff.1 h
  simp [sizeOf, typeInfo, hi, program, Sem.run]
theorem yq_indexAddr {t e : TypeId} {x y : Operand} {a : Option Addr} {m c z : Nat} {i : Int} {k : IntKind} {us : List Value} (ho : o.op = .indexAddr t x y) (ht : P.underlying t = some (.slice e)) (hz : (P.info? e).map (·.size) = some z)
    (hx : E.opd x = some (.slice a m c)) (hy : E.opd y = some (.int k i)) (hs : Sees w0 O a us) (hus : us ≠ []) (h0 : 0 ≤ i) (h1 : i < m) : YQ P w0 O E o (.pointer (some (adr a (i.toNat * z)))) := by
  intro ρ w hE hw
  have e1 := cn_slice (hE.get (x := x) (by simp [ho, Op.operands]) hx)
  have e2 := cn_int (hE.get (x := y) (by simp [ho, Op.operands]) hy)
  rcases hs w hw with h | ⟨p, rfl, hsp, _⟩
  · exact absurd h hus
  · have hr : (execOp ρ o).run P w = .ok (.value (.pointer (some (adr (some p) (i.toNat * z))))) w := by
      simp [execOp, ho, e1, e2, Instr.indexAt, asIntOf, run_underlying ht, h0, h1, info_size hz, adr_add hsp]
    rw [hr]
    exact ⟨rfl, Below.refl _ _⟩
theorem yr_fieldAddr {t : TypeId} {x : Operand} {a : Option Addr} {k f off z : Nat} {fs : Array Field} {fd : Field} (ho : o.op = .fieldAddr t x f) (ht : P.underlying t = some (.struct fs)) (hf : fs[f]? = some fd) (hoff : fd.offset = off) (hz : (P.info? fd.type).map (·.size) = some z) (hz0 : z ≠ 0)
    (hx : E.opd x = some (.pointer (some (adr a k)))) : YR P E o (.pointer (some (adr a (k + off)))) := yr_of fun ρ w hE => by
  have e1 := cn_pointer (hE.get (x := x) (by simp [ho, Op.operands]) hx)
  refine ⟨.pointer (some (adr a (k + off))), by simp [execOp, ho, e1, Instr.fieldAt, run_underlying ht, hf, Instr.sureAddr, fieldPlace, info_size hz, hz0, adr_adr, hoff], rfl⟩
theorem Cl.cell {w : World} {a : Option Addr} {us : List Value} (h : Cl w a us) {k : Nat} {u : Value} (hk : us[k]? = some u) : ∃ v, w.cell? (adr a k) = some v ∧ cn v = u := by
  rcases h with h | ⟨p, rfl, hsp, h⟩
  · rw [h] at hk; simp at hk
  · exact h k u hk
def flatB (P : Program) (t : TypeId) : Bool := match P.underlying t with | some (.struct _) => false | some (.array ..) => false | some _ => true | none => false
theorem run_isAgg_flat {t : TypeId} (h : flatB P t = true) (w : World) : (isAgg t).run P w = .ok false w := by
  unfold flatB at h
  cases hu : P.underlying t with
  | none => rw [hu] at h; cases h
  | some d => rw [hu] at h; cases d <;> simp [isAgg, run_underlying hu] at h ⊢
theorem yq_load {t : TypeId} {x : Operand} {a : Option Addr} {k : Nat} {us : List Value} {u : Value} (ho : o.op = .load t x) (ht : flatB P t = true) (hx : E.opd x = some (.pointer (some (adr a k)))) (hs : Sees w0 O a us) (hk : us[k]? = some u) : YQ P w0 O E o u := by
  intro ρ w hE hw
  have e1 := cn_pointer (hE.get (x := x) (by simp [ho, Op.operands]) hx)
  obtain ⟨v, hv, hu⟩ := (hs w hw).cell hk
  have hr : (execOp ρ o).run P w = .ok (.value v) w := by
    simp [execOp, ho, e1, Instr.loadAt, Instr.sureAddr, loadVar, run_isAgg_flat ht, hv]
  rw [hr]
  exact ⟨hu, Below.refl _ _⟩
theorem aggB {t : TypeId} {fs : Array Field} (h : P.underlying t = some (.struct fs)) (w : World) : (isAgg t).run P w = .ok true w := by
  simp [isAgg, run_underlying h]
def scal : Value → Bool
  | .agg _ => false
  | .tuple _ => false
  | _ => true
theorem scal_cn {v u : Value} (h : cn v = u) (hs : scal u = true) : cn0 v = u ∧ scal v = true := by
  subst h
  cases v <;> simp [cn, cn1, cn0, scal] at hs ⊢
theorem Cl.cellsN {w : World} {a : Option Addr} {us : List Value} (h : Cl w a us) : ∀ (cs : List Value) (k : Nat), (∀ j u, cs[j]? = some u → us[k + j]? = some u) →
    ∃ vs : List Value, vs.length = cs.length ∧ (∀ j v, vs[j]? = some v → w.cell? (adr a (k + j)) = some v) ∧ vs.map cn = cs
  | [], _, _ => ⟨[], rfl, by simp, rfl⟩
  | c :: cs, k, hk => by
    obtain ⟨v, hv, hu⟩ := h.cell (hk 0 c rfl)
    obtain ⟨vs, h1, h2, h3⟩ := Cl.cellsN h cs (k + 1) (fun j u hj => by have := hk (j + 1) u (by simpa using hj); rwa [show k + 1 + j = k + (j + 1) by omega])
    refine ⟨v :: vs, by simp [h1], fun j v' hj => ?_, by simp [hu, h3]⟩
    cases j with
    | zero => simp at hj; subst hj; exact hv
    | succ j => have := h2 j v' (by simpa using hj); rwa [show k + (j + 1) = k + 1 + j by omega]
theorem map_cn0_of {vs cs : List Value} (h : vs.map cn = cs) (hs : cs.all scal = true) : vs.map cn0 = cs ∧ vs.all scal = true := by
  induction vs generalizing cs with
  | nil => subst h; exact ⟨rfl, rfl⟩
  | cons v vs ih =>
    subst h
    simp only [List.map_cons, List.all_cons, Bool.and_eq_true] at hs
    obtain ⟨h1, h2⟩ := scal_cn (v := v) rfl hs.1
    obtain ⟨h3, h4⟩ := ih rfl hs.2
    exact ⟨by simp only [List.map_cons, h1, h3], by simp [h2, h4]⟩
theorem run_loadCells_adr {w : World} {a : Option Addr} {k : Nat} (vs : List Value) (h : ∀ j v, vs[j]? = some v → w.cell? (adr a (k + j)) = some v) : (loadCells (adr a k) vs.length).run P w = .ok vs.toArray w :=
  run_loadCells_list w (adr a k) vs (fun j v hj => by rw [adr_adr]; exact h j v hj)
/-- A struct is read: its cells are those of us from the k-th on. -/
theorem yq_loadS {t : TypeId} {x : Operand} {a : Option Addr} {k z : Nat} {us cs : List Value} {fs : Array Field} (ho : o.op = .load t x) (ht : P.underlying t = some (.struct fs)) (hz : (P.info? t).map (·.size) = some z) (hx : E.opd x = some (.pointer (some (adr a k)))) (hs : Sees w0 O a us)
    (hcs : (us.drop k).take z = cs) (hl : cs.length = z) (hsc : cs.all scal = true) : YQ P w0 O E o (.agg cs.toArray) := by
  intro ρ w hE hw
  have e1 := cn_pointer (hE.get (x := x) (by simp [ho, Op.operands]) hx)
  obtain ⟨vs, h1, h2, h3⟩ := (hs w hw).cellsN cs k (fun j u hj => by
    subst hcs
    have hj' : j < z := by
      have := (List.getElem?_eq_some_iff.1 hj).1
      simp at this; omega
    rw [List.getElem?_take, if_pos hj', List.getElem?_drop] at hj
    exact hj)
  obtain ⟨h4, h5⟩ := map_cn0_of h3 hsc
  have hr : (execOp ρ o).run P w = .ok (.value (.agg vs.toArray)) w := by
    have hload := run_loadCells_adr (P := P) (w := w) (a := a) (k := k) vs h2
    rw [h1, hl] at hload
    simp [execOp, ho, e1, Instr.loadAt, Instr.sureAddr, loadVar, aggB ht, info_size hz, hload]
  rw [hr]
  exact ⟨by simp [cn, cn1, h4], Below.refl _ _⟩
/-- e0 among O, replaced by what f makes -/
inductive UpdF {X : Type} : List Ent → Ent → (X → Ent) → (X → List Ent) → Prop
  | here {e0 : Ent} {O : List Ent} {f : X → Ent} : UpdF (e0 :: O) e0 f (fun x => f x :: O)
  | there {e0 g : Ent} {O : List Ent} {f : X → Ent} {O' : X → List Ent} : UpdF O e0 f O' → UpdF (g :: O) e0 f (fun x => g :: O' x)
  | thereS {e0 : Ent} {S O : List Ent} {f : X → Ent} {O' : X → List Ent} : UpdF O e0 f O' → UpdF (S ++ O) e0 f (fun x => S ++ O' x)
theorem UpdF.parts {X : Type} {e0 : Ent} {f : X → Ent} {O' : X → List Ent} (h : UpdF O e0 f O') : ∃ A B, O = A ++ e0 :: B ∧ ∀ x, O' x = A ++ f x :: B := by
  induction h with
  | here => exact ⟨[], _, rfl, fun _ => rfl⟩
  | there _ ih => obtain ⟨A, B, rfl, h⟩ := ih; exact ⟨_ :: A, B, rfl, fun x => congrArg (_ :: ·) (h x)⟩
  | thereS _ ih => rename_i S _ _ _ _; obtain ⟨A, B, rfl, h⟩ := ih; exact ⟨S ++ A, B, by simp, fun x => by simp [h]⟩
/-- One block has turned. -/
structure Turns (w : World) (b : Nat) (w' : World) : Prop where
  os : w'.os = w.os
  tape : w'.tape = w.tape
  output : w'.output = w.output
  size : w.heap.size ≤ w'.heap.size
  block : ∀ k, k < w.heap.size → k ≠ b → w'.heap[k]? = w.heap[k]?
theorem Turns.trans {w w1 w2 : World} {b : Nat} (h : Turns w b w1) (k : Turns w1 b w2) : Turns w b w2 :=
  ⟨k.os.trans h.os, k.tape.trans h.tape, k.output.trans h.output, Nat.le_trans h.size k.size, fun i hi hb => (k.block i (Nat.lt_of_lt_of_le hi h.size) hb).trans (h.block i hi hb)⟩
theorem Turns.setCell (w : World) (a : Addr) (v : Value) : Turns w a.block (w.setCell a v) :=
  ⟨rfl, rfl, rfl, by simp, fun k _ hk => Below.heap_setCell _ _ _ _ hk⟩
theorem Turns.of_below {w w' : World} (h : Below w.heap.size w w') (b : Nat) : Turns w b w' := ⟨h.os, h.tape, h.output, h.size, fun k hk _ => h.block k hk⟩
theorem apart_symm {e f : Ent} (h : e.apart f) : f.apart e := fun hc hc' p q hp hq => (h hc' hc q p hq hp).symm
theorem Hp.mid {A B : List Ent} {e : Ent} {w : World} (h : Hp w0 (A ++ e :: B) w) : (∀ f ∈ A ++ B, f.at w0.heap.size w) ∧ e.at w0.heap.size w ∧ (A ++ B).Pairwise Ent.apart ∧ ∀ f ∈ A ++ B, e.apart f := by
  have hp := h.apart
  rw [List.pairwise_append, List.pairwise_cons] at hp
  obtain ⟨h1, ⟨h2, h3⟩, h4⟩ := hp
  refine ⟨fun f hf => h.ents f ?_, h.ents e (by simp), ?_, fun f hf => ?_⟩
  · rcases List.mem_append.1 hf with hf | hf
    · exact List.mem_append.2 (.inl hf)
    · exact List.mem_append.2 (.inr (List.mem_cons_of_mem _ hf))
  · exact List.pairwise_append.2 ⟨h1, h3, fun a ha b hb => h4 a ha b (List.mem_cons_of_mem _ hb)⟩
  · rcases List.mem_append.1 hf with hf | hf
    · exact apart_symm (h4 f hf e List.mem_cons_self)
    · exact h2 f hf
theorem Hp.of_mid {A B : List Ent} {e : Ent} {w : World} (hb : Below w0.heap.size w0 w) (h1 : ∀ f ∈ A ++ B, f.at w0.heap.size w) (h2 : e.at w0.heap.size w) (h3 : (A ++ B).Pairwise Ent.apart) (h4 : ∀ f ∈ A ++ B, e.apart f) : Hp w0 (A ++ e :: B) w := by
  refine ⟨hb, fun f hf => ?_, ?_⟩
  · rcases List.mem_append.1 hf with hf | hf
    · exact h1 f (List.mem_append.2 (.inl hf))
    · rcases List.mem_cons.1 hf with rfl | hf
      · exact h2
      · exact h1 f (List.mem_append.2 (.inr hf))
  · rw [List.pairwise_append] at h3 ⊢
    refine ⟨h3.1, List.pairwise_cons.2 ⟨fun f hf => h4 f (List.mem_append.2 (.inr hf)), h3.2.1⟩, fun a ha b hb => ?_⟩
    rcases List.mem_cons.1 hb with rfl | hb
    · exact apart_symm (h4 a (List.mem_append.2 (.inl ha)))
    · exact h3.2.2 a ha b hb
theorem Below.of_turns {w w' : World} {b : Nat} (hb : Below w0.heap.size w0 w) (ht : Turns w b w') (hge : w0.heap.size ≤ b) : Below w0.heap.size w0 w' :=
  ⟨ht.os.trans hb.os, ht.tape.trans hb.tape, ht.output.trans hb.output, Nat.le_trans hb.size ht.size, fun k hk => (ht.block k (Nat.lt_of_lt_of_le hk hb.size) (by omega)).trans (hb.block k hk)⟩
theorem Ent.at.of_turns {Bs : Nat} {w w' : World} {f : Ent} {b : Nat} (h : f.at Bs w) (ht : Turns w b w') (hne : f.cap ≠ 0 → ∀ p, f.a = some p → p.block ≠ b) : f.at Bs w' := by
  by_cases hc : f.cap = 0
  · rcases h with h | ⟨b', c, h1, h2, h3, h4, h5, h6⟩
    · exact .inl h
    · exact .inl ⟨List.eq_nil_of_length_eq_zero (by omega), hc⟩
  · rcases h with h | ⟨b', c, h1, h2, h3, h4⟩
    · exact .inl h
    · exact .inr ⟨b', c, h1, h2, h3.same (ht.block b' h3.lt (hne hc _ h1)), h4⟩
/-- The block of e has turned (or e has moved to a new one): e' stands in its place. -/
theorem Hp.turn {A B : List Ent} {e e' : Ent} {w w' : World} {b : Nat} (h : Hp w0 (A ++ e :: B) w) (ha : e.cap ≠ 0 → ∃ p, e.a = some p ∧ p.block = b) (hge : w0.heap.size ≤ b) (hc : e.cap = 0 → w.heap.size ≤ b) (ht : Turns w b w') (he : e'.at w0.heap.size w')
    (hw : e'.cap ≠ 0 → ∀ p, e'.a = some p → p.block = b ∨ w.heap.size ≤ p.block) : Hp w0 (A ++ e' :: B) w' := by
  obtain ⟨h1, h2, h3, h4⟩ := h.mid
  have hne : ∀ f ∈ A ++ B, f.cap ≠ 0 → ∀ q, f.a = some q → q.block ≠ b := fun f hf hcf q hq => by
    by_cases hce : e.cap = 0
    · have := ((h1 f hf).block hcf hq).2
      have := hc hce
      omega
    · obtain ⟨p, hp, hpb⟩ := ha hce
      have := h4 f hf hce hcf p q hp hq
      omega
  refine Hp.of_mid (Below.of_turns h.below ht hge) (fun f hf => (h1 f hf).of_turns ht (hne f hf)) he h3 fun f hf hce hcf p q hp hq => ?_
  rcases hw hce p hp with hpb | hpb
  · have := hne f hf hcf q hq; omega
  · have := ((h1 f hf).block hcf hq).2; omega
def setAt (us : List Value) : Nat → List Value → List Value
  | _, [] => us
  | k, c :: cs => setAt (us.set k c) (k + 1) cs
theorem setAt_nth (us : List Value) : ∀ (cs : List Value) (k i : Nat), k + cs.length ≤ us.length → (setAt us k cs)[i]? = if k ≤ i ∧ i < k + cs.length then cs[i - k]? else us[i]?
  | [], k, i, _ => by rw [setAt, if_neg (by simp only [List.length_nil]; omega)]
  | c :: cs, k, i, h => by
    simp only [List.length_cons] at h
    rw [setAt, setAt_nth (us.set k c) cs (k + 1) i (by simp only [List.length_set]; omega)]
    simp only [List.length_cons]
    by_cases h1 : k + 1 ≤ i ∧ i < k + 1 + cs.length
    · rw [if_pos h1, if_pos (by omega), show i - k = (i - (k + 1)) + 1 by omega, List.getElem?_cons_succ]
    · rw [if_neg h1]
      by_cases h2 : i = k
      · subst h2
        rw [if_pos (by omega), Nat.sub_self, List.getElem?_cons_zero, List.getElem?_set_self (by omega)]
      · rw [if_neg (by omega), List.getElem?_set_ne (by omega)]
theorem setAt_length (us : List Value) (k : Nat) (cs : List Value) : (setAt us k cs).length = us.length := by
  induction cs generalizing us k with
  | nil => rfl
  | cons c cs ih => rw [setAt, ih, List.length_set]
theorem run_store_scal {w : World} {a : Addr} {v v0 : Value} (hs : scal v = true) (hv : w.cell? a = some v0) (hf : w.frozen? a = false) : (store a v).run P w = .ok () (w.setCell a v) := by
  cases v <;> simp [scal] at hs <;> simp [store, Sem.run, hv, hf]
/-- A row of cells is written into a block that is known. -/
theorem run_storeCells_ent {Bs : Nat} : ∀ (vs : List Value) (us : List Value) (i k : Nat) (w : World) (a : Option Addr) (cap : Nat) (ty : TypeId), vs.all scal = true → k + i + vs.length ≤ us.length → Ent.at Bs w ⟨a, us, cap, ty⟩ →
    ∃ b w', (storeCells (adr a k) vs i).run P w = .ok () w' ∧ (vs ≠ [] → a = some ⟨b, 0, none⟩) ∧ Turns w b w' ∧ Ent.at Bs w' ⟨a, setAt us (k + i) (vs.map cn), cap, ty⟩
  | [], us, i, k, w, a, cap, ty, _, _, he => by
    rcases a with _ | ⟨b, o', s⟩
    · exact ⟨0, w, by simp [storeCells], by simp, Turns.of_below (Below.refl _ _) _, he⟩
    · exact ⟨b, w, by simp [storeCells], by simp, Turns.of_below (Below.refl _ _) _, he⟩
  | v :: vs, us, i, k, w, a, cap, ty, hs, hl, he => by
    simp only [List.all_cons, Bool.and_eq_true] at hs
    simp only [List.length_cons] at hl
    rcases he with he | ⟨b, c, h1, h2, h3, h4, h5, h6⟩
    · have := he.1
      change us = [] at this
      subst this
      simp at hl
    · simp only at h1 h3 h4 h5 h6
      subst h1
      have hk : k + i < us.length := by omega
      have hadr : adr (some ⟨b, 0, none⟩) (k + i) = ⟨b, k + i, none⟩ := by simp [adr]
      obtain ⟨v0, hv0, _⟩ := h6 (k + i) us[k + i] (List.getElem?_eq_getElem hk)
      have hcell : w.cell? (adr (some ⟨b, 0, none⟩) (k + i)) = some v0 := by rw [hadr, h3.cell]; exact hv0
      have hfr : w.frozen? (adr (some ⟨b, 0, none⟩) (k + i)) = false := by rw [hadr]; exact h3.melt (Array.getElem?_eq_some_iff.1 hv0).1
      have hst := run_store_scal (P := P) (w := w) hs.1 hcell hfr
      have hw1 : Frz (w.setCell (adr (some ⟨b, 0, none⟩) (k + i)) v) b (c.setIfInBounds (k + i) v) ty := by
        rw [hadr]; exact h3.set _ _
      have he1 : Ent.at Bs (w.setCell (adr (some ⟨b, 0, none⟩) (k + i)) v) ⟨some ⟨b, 0, none⟩, us.set (k + i) (cn v), cap, ty⟩ := by
        refine .inr ⟨b, _, rfl, h2, hw1, by simpa using h4, by simpa using h5, fun j u hj => ?_⟩
        by_cases hjk : k + i = j
        · subst hjk
          rw [List.getElem?_set_self hk] at hj
          cases hj
          have hlt : k + i < c.size := (Array.getElem?_eq_some_iff.1 hv0).1
          exact ⟨v, by rw [Array.getElem?_setIfInBounds, if_pos rfl, if_pos hlt], rfl⟩
        · rw [List.getElem?_set_ne hjk] at hj
          obtain ⟨v', hv', hu'⟩ := h6 j u hj
          exact ⟨v', by rw [Array.getElem?_setIfInBounds_ne hjk]; exact hv', hu'⟩
      obtain ⟨b', w', g1, g2, g3, g4⟩ := run_storeCells_ent vs (us.set (k + i) (cn v)) (i + 1) k _ (some ⟨b, 0, none⟩) cap ty hs.2 (by simp only [List.length_set]; omega) he1
      have hbb : vs ≠ [] → b' = b := fun hn => by have := g2 hn; injection this with h; injection h with h; exact h.symm
      refine ⟨b, w', ?_, fun _ => rfl, ?_, ?_⟩
      · simp only [storeCells, Sem.run_bind, adr_adr, hst, Result.andThen_ok]
        exact g1
      · refine Turns.trans (Turns.setCell w (adr (some ⟨b, 0, none⟩) (k + i)) v) ?_
        rw [hadr]
        cases vs with
        | nil =>
          have g1' : w.setCell (adr (some ⟨b, 0, none⟩) (k + i)) v = w' := by simpa [storeCells] using g1
          rw [hadr] at g1'
          subst g1'; exact Turns.of_below (Below.refl _ _) _
        | cons _ _ => rw [hbb (by simp), hadr] at g3; exact g3
      · simp only [List.map_cons, setAt]
        rw [show k + i + 1 = k + (i + 1) by omega]
        exact g4
theorem Ent.at.addr {Bs : Nat} {w : World} {e : Ent} (h : e.at Bs w) (hc : e.cap ≠ 0) : ∃ b, e.a = some ⟨b, 0, none⟩ ∧ Bs ≤ b := by
  rcases h with h | ⟨b, c, h1, h2, _⟩
  · exact absurd h.2 hc
  · exact ⟨b, h1, h2⟩
/-- A store into a block of the call's own: one cell, or a struct's. -/
theorem yc_store {t : TypeId} {x y : Operand} {a : Option Addr} {k z cap : Nat} {ty : TypeId} {us us' cs : List Value} {u : Value} {O' : Unit → List Ent} (ho : o.op = .store t x y) (hz : (P.info? t).map (·.size) = some z)
    (hx : E.opd x = some (.pointer (some (adr a k)))) (hy : E.opd y = some u) (hO : UpdF O ⟨a, us, cap, ty⟩ (fun _ : Unit => ⟨a, us', cap, ty⟩) O') (hu : (scal u = true ∧ cs = [u]) ∨ (u = .agg cs.toArray ∧ cs.all scal = true)) (hl : cs.length = z) (hk : k + z ≤ us.length) (hz0 : 0 < z)
    (hus : setAt us k cs = us') : YC P w0 O E o (fun _ : Unit => undef) O' := by
  intro ρ w F hE hw
  have e1 := cn_pointer (hE.get (x := x) (by simp [ho, Op.operands]) hx)
  have e2 := hE.get (x := y) (by simp [ho, Op.operands]) hy
  obtain ⟨A, B, rfl, hO'⟩ := hO.parts
  simp only [hO']
  rw [← List.append_assoc] at hw ⊢
  -- the concrete cells
  obtain ⟨vs, g1, g2, g3⟩ : ∃ vs : List Value, (ρ y).cells = vs.toArray ∧ vs.map cn = cs ∧ vs.all scal = true := by
    rcases hu with ⟨hs, rfl⟩ | ⟨rfl, hs⟩
    · obtain ⟨h1, h2⟩ := scal_cn e2 hs
      refine ⟨[ρ y], ?_, by simp [e2], by simp [h2]⟩
      generalize ρ y = v at *
      cases v <;> simp [scal, Value.cells] at h2 ⊢
    · obtain ⟨ws, h1, h2⟩ := cn_agg e2
      refine ⟨ws.toList, by rw [h1]; simp [Value.cells], ?_, ?_⟩
      · have : ws.toList.map cn0 = cs := by have := congrArg Array.toList h2; simpa using this
        subst this
        apply List.map_congr_left
        intro v hv
        have hsv : scal (cn0 v) = true := List.all_eq_true.1 hs _ (List.mem_map_of_mem hv)
        cases v <;> simp [cn0, scal] at hsv <;> rfl
      · have : ws.toList.map cn0 = cs := by have := congrArg Array.toList h2; simpa using this
        subst this
        rw [List.all_eq_true] at hs ⊢
        intro v hv
        have hsv : scal (cn0 v) = true := hs _ (List.mem_map_of_mem hv)
        cases v <;> simp [cn0, scal] at hsv ⊢
  have hvl : vs.length = z := by rw [← hl, ← g2, List.length_map]
  have hent := (hw.ents ⟨a, us, cap, ty⟩ (by simp))
  have hcap : cap ≠ 0 := by
    rcases hent with h | ⟨_, _, _, _, _, _, h5, _⟩
    · have := h.1; simp only at this; subst this; simp at hk; omega
    · simp only at h5; omega
  obtain ⟨b0, hb0, hge⟩ := hent.addr hcap
  obtain ⟨b, w', r1, r2, r3, r4⟩ := run_storeCells_ent (P := P) vs us 0 k w a cap ty g3 (by omega) hent
  have hbb : b = b0 := by
    have := r2 (by intro h; subst h; simp at hvl; omega)
    simp only at hb0
    rw [this] at hb0
    simpa using hb0
  subst hbb
  have hr : (execOp ρ o).run P w = .ok .skip w' := by
    simp only [execOp, ho, Instr.storeAt, Instr.sureAddr, e1, storeVar, Sem.run_bind, Sem.run_pure, Result.andThen_ok, info_size hz, g1]
    simp [hvl, r1]
  rw [hr]
  refine ⟨(), by simp [undef, cn], ?_⟩
  simp only [Nat.add_zero, g2, hus] at r4
  exact Hp.turn hw (fun _ => ⟨_, hb0, rfl⟩) hge (fun h => absurd h hcap) r3 r4 (fun _ p hp => .inl (by simp only at hp hb0; rw [hb0] at hp; cases hp; rfl))
theorem below_alloc (w : World) (c : Array Value) (e : TypeId) : Below w.heap.size w (w.alloc (.cells c e)) := (Below.refl _ w).alloc (Nat.le_refl _) _
theorem heap_alloc_at (w : World) (c : Array Value) (e : TypeId) : Frz (w.alloc (.cells c e)) w.heap.size c e := by
  refine ⟨(0, 0), ?_, .inl rfl⟩
  show (w.heap.push _)[w.heap.size]? = _
  simp
theorem ent_new (w : World) (vs us : List Value) (e : TypeId) (h : vs.map cn = us) : Ent.at w.heap.size (w.alloc (.cells vs.toArray e)) ⟨some ⟨w.heap.size, 0, none⟩, us, us.length, e⟩ := by
  subst h
  refine .inr ⟨w.heap.size, vs.toArray, rfl, Nat.le_refl _, heap_alloc_at w _ e, by simp, by simp, fun i u hu => ?_⟩
  simp only [List.getElem?_map, Option.map_eq_some_iff] at hu
  simpa using hu
theorem run_newRow (w : World) (e : TypeId) (c : Array Value) : (newRow e c).run P w = .ok ⟨w.heap.size, 0, none⟩ (w.alloc (.cells c e)) := by
  rfl
/-- The cells of a canonical value. -/
theorem cells_cn {v u : Value} {cs : List Value} (e2 : cn v = u) (hu : (scal u = true ∧ cs = [u]) ∨ (u = .agg cs.toArray ∧ cs.all scal = true)) : ∃ vs : List Value, v.cells = vs.toArray ∧ vs.map cn = cs ∧ vs.all scal = true := by
  rcases hu with ⟨hs, rfl⟩ | ⟨rfl, hs⟩
  · obtain ⟨h1, h2⟩ := scal_cn e2 hs
    refine ⟨[v], ?_, by simp [e2], by simp [h2]⟩
    cases v <;> simp [scal, Value.cells] at h2 ⊢
  · obtain ⟨ws, rfl, h2⟩ := cn_agg e2
    have h3 : ws.toList.map cn0 = cs := by have := congrArg Array.toList h2; simpa using this
    subst h3
    refine ⟨ws.toList, by simp [Value.cells], ?_, ?_⟩
    · apply List.map_congr_left
      intro v hv
      have hsv : scal (cn0 v) = true := List.all_eq_true.1 hs _ (List.mem_map_of_mem hv)
      cases v <;> simp [cn0, scal] at hsv <;> rfl
    · rw [List.all_eq_true] at hs ⊢
      intro v hv
      have hsv : scal (cn0 v) = true := hs _ (List.mem_map_of_mem hv)
      cases v <;> simp [cn0, scal] at hsv ⊢
theorem yn_box {e : TypeId} {x : Operand} {u : Value} {cs : List Value} (ho : o.op = .box e x) (hx : E.opd x = some u) (hu : (scal u = true ∧ cs = [u]) ∨ (u = .agg cs.toArray ∧ cs.all scal = true)) :
    YN P w0 O E o (fun b : Nat => .pointer (some (adr (some ⟨b, 0, none⟩) 0))) (fun b => [⟨some ⟨b, 0, none⟩, cs, cs.length, e⟩]) := by
  intro ρ w hE hw
  obtain ⟨vs, g1, g2, g3⟩ := cells_cn (hE.get (x := x) (by simp [ho, Op.operands]) hx) hu
  have hr : (execOp ρ o).run P w = .ok (.value (.pointer (some ⟨w.heap.size, 0, none⟩))) (w.alloc (.cells vs.toArray e)) := by
    simp [execOp, ho, Instr.box, newVar, run_newRow, g1]
  rw [hr]
  refine ⟨w.heap.size, by simp [cn, cn1, cn0, adr], below_alloc _ _ _, ?_, List.pairwise_singleton _ _⟩
  intro e' he'
  simp only [List.mem_singleton] at he'
  subst he'
  exact ent_new w vs cs e g2
theorem info_zero {t : TypeId} {z : Value} (h : (P.info? t).bind (·.zero) = some z) (w : World) : (zeroValue t).run P w = .ok z w := by
  obtain ⟨i, hi, h⟩ := Option.bind_eq_some_iff.1 h
  simp [zeroValue, typeInfo, hi, h, program, Sem.run]
theorem yn_alloc {e : TypeId} {z : Value} {cs : List Value} (ho : o.op = .alloc e) (hz : (P.info? e).bind (·.zero) = some z) (hc : z.cells.toList.map cn = cs) :
    YN P w0 O E o (fun b : Nat => .pointer (some (adr (some ⟨b, 0, none⟩) 0))) (fun b => [⟨some ⟨b, 0, none⟩, cs, cs.length, e⟩]) := by
  intro ρ w hE hw
  have hr : (execOp ρ o).run P w = .ok (.value (.pointer (some ⟨w.heap.size, 0, none⟩))) (w.alloc (.cells z.cells.toList.toArray e)) := by
    simp [execOp, ho, Instr.alloc, newVar, run_newRow, info_zero hz]
  rw [hr]
  refine ⟨w.heap.size, by simp [cn, cn1, cn0, adr], below_alloc _ _ _, ?_, List.pairwise_singleton _ _⟩
  intro e' he'
  simp only [List.mem_singleton] at he'
  subst he'
  exact ent_new w _ cs e hc
end
end Go.Proofs.Ytfkblhlkeglilaa

namespace Go.Proofs.Ytfkblhlkeglilaa
open Go.RowKit
/-- The call yields u (canonically) and turns nothing that was there. -/
def Pure (P : Program) (f : FuncId) (us : List Value) (w : World) (u : Value) : Prop :=
  ∀ vs : Array Value, vs.toList.map cn = us → Calls P f vs w (fun e w' => ∃ v, e = .returned v ∧ cn v = u ∧ Below w.heap.size w w')
/-- .. yields u x with the new blocks N x, for some x. -/
def New (P : Program) (f : FuncId) (us : List Value) (w : World) {X : Type} (u : X → Value) (N : X → List Ent) : Prop :=
  ∀ vs : Array Value, vs.toList.map cn = us → Calls P f vs w (fun e w' => ∃ v, e = .returned v ∧ ∃ x, cn v = u x ∧ Below w.heap.size w w' ∧ (∀ e ∈ N x, e.at w.heap.size w') ∧ (N x).Pairwise Ent.apart)
section
variable {P : Program} {n : Nat} {w0 : World} {O : List Ent} {E : Env} {Q : Exit → Act → World → Prop} {ops : Array Oper} {o : Oper} {rest : List Oper} {d : Nat}
/-- What is known of a function that is called: it has a body, and is not the one that the model treats apart. -/
def Known (P : Program) (f : FuncId) : Prop := ∃ fn, P.funcs[f]? = some fn ∧ fn.body.isSome = true ∧ (fn.name == "runtime.NumGoroutine") = false
theorem Known.mk' {f : FuncId} {fn : Func} (h : P.funcs[f]? = some fn) (h1 : (fn.body.isSome && !(fn.name == "runtime.NumGoroutine")) = true) : Known P f := by
  simp only [Bool.and_eq_true, Bool.not_eq_true'] at h1
  exact ⟨fn, h, h1.1, h1.2⟩
theorem run_callFunc {f : FuncId} (h : Known P f) (args : Array Value) (w : World) : (callFunc f args).run P w = .ok (.enter f args) w := by
  obtain ⟨fn, h1, h2, h3⟩ := h
  obtain ⟨c, hb⟩ := Option.isSome_iff_exists.1 h2
  have h3' : ¬ fn.name = "runtime.NumGoroutine" := by simpa using h3
  simp [callFunc, program, Sem.run, h1, h3', hb]
/-- The operands read as these. -/
def Opds (E : Env) : List Operand → List Value → Prop
  | [], us => us = []
  | x :: xs, us => ∃ u r, us = u :: r ∧ E.opd x = some u ∧ Opds E xs r
theorem Opds.nil : Opds E [] [] := rfl
theorem Opds.cons {x : Operand} {xs : List Operand} {u : Value} {us : List Value} (h : E.opd x = some u) (hs : Opds E xs us) : Opds E (x :: xs) (u :: us) := ⟨u, us, rfl, h, hs⟩
theorem Opds.map {xs : List Operand} {us : List Value} (h : Opds E xs us) {op : Op} {ρ : Operand → Value} (hE : Ev E op ρ) (hm : ∀ x ∈ xs, x ∈ op.operands) : (xs.map ρ).map cn = us := by
  induction xs generalizing us with
  | nil => exact h.symm
  | cons x xs ih =>
    obtain ⟨u, r, rfl, h1, h2⟩ := h
    simp only [List.map_cons, hE.get (hm x List.mem_cons_self) h1, ih h2 (fun y hy => hm y (List.mem_cons_of_mem _ hy))]
/-- The value of the callee, in a call: the function f with captured variables cs. -/
theorem run_call {callee : Operand} {args : Array Operand} {ts : Array TypeId} {f : FuncId} {cs : Array Value} (ho : o.op = .call ⟨.value callee, args, ts⟩) (hk : Known P f) (hc : E.opd callee = some (.func (.func f) #[] cs)) {ρ : Operand → Value} {w : World} (hE : Ev E o.op ρ) :
    (execOp ρ o).run P w = .ok (.enter f (args.map ρ ++ cs)) w := by
  have h1 := cn_func (hE.get (x := callee) (by simp [ho, Op.operands, Call.operands]) hc)
  simp [execOp, ho, resolve, h1, Deferred.ofValue, invoke, run_callFunc hk]
theorem args_map {callee : Operand} {args : Array Operand} {ts : Array TypeId} {us : List Value} {cs : Array Value} (ho : o.op = .call ⟨.value callee, args, ts⟩) (hx : Opds E args.toList us) {ρ : Operand → Value} (hE : Ev E o.op ρ) :
    (args.map ρ ++ cs).toList.map cn = us ++ cs.toList.map cn := by
  have := hx.map hE (fun x hx => by simp [ho, Op.operands, Call.operands]; exact .inr (by simpa using hx))
  simp [← this]
theorem yq_call {callee : Operand} {args : Array Operand} {ts : Array TypeId} {f : FuncId} {us : List Value} {cs : Array Value} {u : Value} (ho : o.op = .call ⟨.value callee, args, ts⟩) (hk : Known P f) (hc : E.opd callee = some (.func (.func f) #[] cs)) (hx : Opds E args.toList us)
    (h : ∀ w, Hp w0 O w → Pure P f (us ++ cs.toList.map cn) w u) : YQ P w0 O E o u := by
  intro ρ w hE hw
  rw [run_call ho hk hc hE]
  exact (h w hw _ (args_map ho hx hE)).mono fun e w' ⟨v, h1, h2, h3⟩ => ⟨v, h1, h2, h3⟩
theorem yn_call {callee : Operand} {args : Array Operand} {ts : Array TypeId} {f : FuncId} {us : List Value} {cs : Array Value} {X : Type} {u : X → Value} {N : X → List Ent} (ho : o.op = .call ⟨.value callee, args, ts⟩) (hk : Known P f) (hc : E.opd callee = some (.func (.func f) #[] cs)) (hx : Opds E args.toList us)
    (h : ∀ w, Hp w0 O w → New P f (us ++ cs.toList.map cn) w u N) : YN P w0 O E o u N := by
  intro ρ w hE hw
  rw [run_call ho hk hc hE]
  exact (h w hw _ (args_map ho hx hE)).mono fun e w' ⟨v, h1, h2⟩ => ⟨v, h1, h2⟩
/-- A call of a function that is named. -/
theorem args_map' {callee : Operand} {args : Array Operand} {ts : Array TypeId} {us : List Value} (ho : o.op = .call ⟨.value callee, args, ts⟩) (hx : Opds E args.toList us) {ρ : Operand → Value} (hE : Ev E o.op ρ) :
    (args.map ρ ++ #[]).toList.map cn = us := by
  have := hx.map hE (fun x hx => by simp [ho, Op.operands, Call.operands]; exact .inr (by simpa using hx))
  simp [← this]
theorem yq_callf {args : Array Operand} {ts : Array TypeId} {f : FuncId} {us : List Value} {u : Value} (ho : o.op = .call ⟨.value (.func f), args, ts⟩) (hk : Known P f) (hx : Opds E args.toList us)
    (h : ∀ w, Hp w0 O w → Pure P f us w u) : YQ P w0 O E o u := by
  intro ρ w hE hw
  rw [run_call ho hk rfl hE]
  exact (h w hw _ (args_map' ho hx hE)).mono fun e w' ⟨v, h1, h2, h3⟩ => ⟨v, h1, h2, h3⟩
theorem yn_callf {args : Array Operand} {ts : Array TypeId} {f : FuncId} {us : List Value} {X : Type} {u : X → Value} {N : X → List Ent} (ho : o.op = .call ⟨.value (.func f), args, ts⟩) (hk : Known P f) (hx : Opds E args.toList us)
    (h : ∀ w, Hp w0 O w → New P f us w u N) : YN P w0 O E o u N := by
  intro ρ w hE hw
  rw [run_call ho hk rfl hE]
  exact (h w hw _ (args_map' ho hx hE)).mono fun e w' ⟨v, h1, h2⟩ => ⟨v, h1, h2⟩
/-- Entries that are taken out of what is owned: one, or a row of them. -/
inductive Rem : List Ent → List Ent → List Ent → Prop
  | here {e : Ent} {O : List Ent} : Rem (e :: O) [e] O
  | hereS {S O : List Ent} : Rem (S ++ O) S O
  | there {e : Ent} {O S O' : List Ent} : Rem O S O' → Rem (e :: O) S (e :: O')
  | thereS {T O S O' : List Ent} : Rem O S O' → Rem (T ++ O) S (T ++ O')
inductive Pick : List Ent → List Ent → List Ent → Prop
  | nil {O : List Ent} : Pick O [] O
  | take {O S O1 M F : List Ent} : Rem O S O1 → Pick O1 M F → Pick O (S ++ M) F
theorem Rem.perm {O S O' : List Ent} (h : Rem O S O') : O.Perm (S ++ O') := by
  induction h with
  | here => exact List.Perm.refl _
  | hereS => exact List.Perm.refl _
  | there _ ih => exact (List.Perm.cons _ ih).trans List.perm_middle.symm
  | thereS _ ih =>
    refine (List.Perm.append_left _ ih).trans ?_
    rw [← List.append_assoc, ← List.append_assoc]
    exact List.Perm.append_right _ List.perm_append_comm
theorem Pick.perm {O M F : List Ent} (h : Pick O M F) : O.Perm (F ++ M) := by
  induction h with
  | nil => simp
  | take h1 _ ih =>
    refine h1.perm.trans ((List.Perm.append_left _ ih).trans ?_)
    rw [← List.append_assoc]
    refine (List.Perm.append_right _ List.perm_append_comm).trans ?_
    rw [List.append_assoc]
theorem Hp.perm' {O' : List Ent} {w : World} (h : Hp w0 O w) (hp : O.Perm O') : Hp w0 O' w :=
  ⟨h.below, fun e he => h.ents e (hp.mem_iff.2 he), h.apart.perm hp (fun h => apart_symm h)⟩
def argsFrom : Nat → List Value → Env
  | _, [] => []
  | i, u :: us => (i, u) :: argsFrom (i + 1) us
theorem argsFrom_get : ∀ (us : List Value) (i t : Nat) (u : Value), (argsFrom i us).get t = some u → i ≤ t ∧ us[t - i]? = some u
  | [], i, t, u, h => by simp [argsFrom, Env.get] at h
  | v :: us, i, t, u, h => by
    simp only [argsFrom, Env.get] at h
    cases hb : Nat.beq i t with
    | true =>
      have e : i = t := Nat.eq_of_beq_eq_true hb
      subst e
      rw [hb] at h
      exact ⟨Nat.le_refl _, by simpa using h⟩
    | false =>
      rw [hb] at h
      obtain ⟨h1, h2⟩ := argsFrom_get us (i + 1) t u h
      refine ⟨by omega, ?_⟩
      rw [show t - i = t - (i + 1) + 1 by omega]
      simpa using h2
theorem models_args {vs : Array Value} {us : List Value} (h : vs.toList.map cn = us) (hn : us.length ≤ n) : Models n (argsFrom 0 us) { tmps := vs ++ Array.replicate (n - vs.size) undef, defers := [] } := by
  have hl : vs.size = us.length := by rw [← h]; simp
  refine ⟨by simp; omega, rfl, fun t u ht => ?_⟩
  obtain ⟨_, h2⟩ := argsFrom_get us 0 t u ht
  subst h
  simp only [Nat.sub_zero, List.getElem?_map, Option.map_eq_some_iff] at h2
  obtain ⟨v, hv, hu⟩ := h2
  have hlt : t < vs.size := by
    have := (List.getElem?_eq_some_iff.1 hv).1
    simpa using this
  refine ⟨v, ?_, hu⟩
  rw [Array.getElem?_append_left hlt]
  simpa using hv
/-- How a body ends. -/
abbrev Ends (P : Program) (fn : Func) (R : Value → World → Prop) : Exit → Act → World → Prop := bodyPost P fn (fun e w' => ∃ v, e = .returned v ∧ R (cn v) w')
theorem calls_enter {f : FuncId} {fn : Func} {c : Code} {us : List Value} {w : World} {R : Value → World → Prop} (hf : P.funcs[f]? = some fn) (hb : fn.body = some c) (hn : fn.ntmps = n) (hl : us.length ≤ n)
    (h : V P n w [] (argsFrom 0 us) c (Ends P fn R)) (vs : Array Value) (hv : vs.toList.map cn = us) : Calls P f vs w (fun e w' => ∃ v, e = .returned v ∧ R (cn v) w') := by
  refine calls_of_wp hf hb ?_
  rw [hn]
  exact h _ _ (models_args hv hl) (Hp.refl w)
theorem Pure.enter {f : FuncId} {fn : Func} {c : Code} {us : List Value} {w : World} {u : Value} (hf : P.funcs[f]? = some fn) (hb : fn.body = some c) (hn : fn.ntmps = n) (hl : us.length ≤ n)
    (h : V P n w [] (argsFrom 0 us) c (Ends P fn (fun u' w' => u' = u ∧ Below w.heap.size w w'))) : Pure P f us w u := calls_enter hf hb hn hl h
theorem New.enter {f : FuncId} {fn : Func} {c : Code} {us : List Value} {w : World} {X : Type} {u : X → Value} {N : X → List Ent} (hf : P.funcs[f]? = some fn) (hb : fn.body = some c) (hn : fn.ntmps = n) (hl : us.length ≤ n)
    (h : V P n w [] (argsFrom 0 us) c (Ends P fn (fun u' w' => ∃ x, u' = u x ∧ Below w.heap.size w w' ∧ (∀ e ∈ N x, e.at w.heap.size w') ∧ (N x).Pairwise Ent.apart))) : New P f us w u N := calls_enter hf hb hn hl h
theorem cn_of_ne {v u : Value} (h : cn v = u) (hn : ∀ z, u ≠ .tuple z) : cn1 v = u := by
  cases v <;> simp [cn] at h ⊢ <;> try exact h
  exact absurd h.symm (hn _)
theorem ret1 {fn : Func} {R : Value → World → Prop} {t : Tmp} {u : Value} (hr : fn.results = #[.tmp t]) (hu : E.get t = some u) (h : ∀ w, Hp w0 O w → R u w) : VE n w0 O E (Ends P fn R) .ret := by
  intro a w ha hw
  obtain ⟨v, h1, h2⟩ := ha.get t u hu
  exact bodyPost_ret (results_tmp hr _ _ _) ha.defers ⟨v, by simp [h1], by rw [h2]; exact h w hw⟩
theorem ret2 {fn : Func} {R : Value → World → Prop} {t s : Tmp} {u x : Value} (hr : fn.results = #[.tmp t, .tmp s]) (hu : E.get t = some u) (hx : E.get s = some x) (hun : ∀ z, u ≠ .tuple z) (hxn : ∀ z, x ≠ .tuple z) (h : ∀ w, Hp w0 O w → R (.tuple #[u, x]) w) : VE n w0 O E (Ends P fn R) .ret := by
  intro a w ha hw
  obtain ⟨v, h1, h2⟩ := ha.get t u hu
  obtain ⟨y, h3, h4⟩ := ha.get s x hx
  refine bodyPost_ret (results_tmp2 hr _ _ _) ha.defers ⟨_, rfl, ?_⟩
  simp [h1, h3, cn, cn_of_ne h2 hun, cn_of_ne h4 hxn, h w hw]
theorem results_tmp3 {fn : Func} {t u s : Tmp} (h : fn.results = #[.tmp t, .tmp u, .tmp s]) (tmps : Array Value) (P : Program) (w : World) :
    (results fn tmps).run P w = .ok (.tuple #[tmps.getD t undef, tmps.getD u undef, tmps.getD s undef]) w := by
  simp [results, h]
theorem ret3 {fn : Func} {R : Value → World → Prop} {t s r : Tmp} {u x y : Value} (hr : fn.results = #[.tmp t, .tmp s, .tmp r]) (hu : E.get t = some u) (hx : E.get s = some x) (hy : E.get r = some y) (hun : ∀ z, u ≠ .tuple z) (hxn : ∀ z, x ≠ .tuple z) (hyn : ∀ z, y ≠ .tuple z) (h : ∀ w, Hp w0 O w → R (.tuple #[u, x, y]) w) : VE n w0 O E (Ends P fn R) .ret := by
  intro a w ha hw
  obtain ⟨v1, h1, h2⟩ := ha.get t u hu
  obtain ⟨v2, h3, h4⟩ := ha.get s x hx
  obtain ⟨v3, h5, h6⟩ := ha.get r y hy
  refine bodyPost_ret (results_tmp3 hr _ _ _) ha.defers ⟨_, rfl, ?_⟩
  simp [h1, h3, h5, cn, cn_of_ne h2 hun, cn_of_ne h4 hxn, cn_of_ne h6 hyn, h w hw]
/-- parts that are laid into cells -/
def fillC (places : List (Nat × Nat)) : List (Nat × Value) → List Value → Option (List Value)
  | [], cells => some cells
  | (i, v) :: r, cells =>
    match places[i]? with
    | none => none
    | some (off, size) =>
      if v.cells.size ≠ size ∨ off + v.cells.size > cells.length then none
      else fillC places r (setAt cells off v.cells.toList)
theorem setAt_map (f : Value → Value) (us : List Value) (k : Nat) (cs : List Value) : (setAt us k cs).map f = setAt (us.map f) k (cs.map f) := by
  induction cs generalizing us k with
  | nil => rfl
  | cons c cs ih => simp only [setAt, List.map_cons, ih, List.map_set]
theorem foldl_setAt (cs : List Value) (off : Nat) : ∀ (j : Nat) (cells : Array Value), ((cs.zipIdx j).foldl (fun (cs : Array Value) (x : Value × Nat) => cs.setIfInBounds (off + x.2) x.1) cells).toList = setAt cells.toList (off + j) cs := by
  induction cs with
  | nil => intro j cells; rfl
  | cons c cs ih =>
    intro j cells
    simp only [List.zipIdx_cons, List.foldl_cons, setAt]
    rw [ih (j + 1)]
    simp [Nat.add_assoc]
theorem fill_fillC (places : Array (Nat × Nat)) : ∀ (parts : List (Nat × Value)) (cells : Array Value), (Instr.fill (places[·]?) cells parts).map Array.toList = fillC places.toList parts cells.toList
  | [], cells => rfl
  | (i, v) :: r, cells => by
    simp only [Instr.fill, fillC, Array.getElem?_toList]
    cases places[i]? with
    | none => rfl
    | some p =>
      obtain ⟨off, size⟩ := p
      dsimp only
      by_cases h : v.cells.size ≠ size ∨ off + v.cells.size > cells.size
      · rw [if_pos (by simpa using h), if_pos (by simpa using h)]; rfl
      · rw [if_neg (by simpa using h), if_neg (by simpa using h), fill_fillC places r]
        congr 1
        have := foldl_setAt v.cells.toList off 0 cells
        simp only [Nat.add_zero] at this
        rw [← this]
        congr 1
        rw [← Array.foldl_toList, Array.toList_zipIdx]
theorem cells_cn1 {v : Value} (h : ∀ z, v ≠ .tuple z) : (cn v).cells.toList = v.cells.toList.map cn0 := by
  cases v <;> simp [cn, cn1, cn0, Value.cells] at h ⊢
theorem fillC_cn (places : List (Nat × Nat)) : ∀ (parts : List (Nat × Value)) (cells : List Value), (∀ p ∈ parts, ∀ z, p.2 ≠ .tuple z) →
    fillC places (parts.map fun p => (p.1, cn p.2)) (cells.map cn0) = (fillC places parts cells).map (List.map cn0)
  | [], cells, _ => rfl
  | (i, v) :: r, cells, h => by
    have hv := cells_cn1 (h (i, v) List.mem_cons_self)
    have hs : (cn v).cells.size = v.cells.size := by have := congrArg List.length hv; simpa using this
    simp only [List.map_cons, fillC]
    cases places[i]? with
    | none => rfl
    | some p =>
      obtain ⟨off, size⟩ := p
      dsimp only
      rw [hs, List.length_map]
      split
      · rfl
      · rw [hv, ← setAt_map]
        exact fillC_cn places r _ (fun p hp => h p (List.mem_cons_of_mem _ hp))
/-- What is known of a struct type: its zero cells, and where its fields lie. -/
def Lay (P : Program) (t : TypeId) (zero : List Value) (places : List (Nat × Nat)) : Prop :=
  ∃ fs : Array Field, P.underlying t = some (.struct fs) ∧ (P.info? t).bind (·.zero) = some (.agg zero.toArray) ∧ (fs.toList.mapM fun f => (P.info? f.type).map fun i => (f.offset, i.size)) = some places
theorem Lay.mk' {t : TypeId} {zero : List Value} {places : List (Nat × Nat)} (h : (match P.underlying t with | some (.struct fs) => (fs.toList.mapM fun f => (P.info? f.type).map fun i => (f.offset, i.size)) | _ => none) = some places) (hz : (P.info? t).bind (·.zero) = some (.agg zero.toArray)) : Lay P t zero places := by
  cases hu : P.underlying t with
  | none => rw [hu] at h; cases h
  | some d =>
    rw [hu] at h
    cases d <;> simp only at h <;> first | (cases h; done) | exact ⟨_, hu, hz, h⟩
theorem run_places (l : List Field) : ∀ places, (l.mapM fun f => (P.info? f.type).map fun i => (f.offset, i.size)) = some places → ∀ w : World,
    (l.mapM (m := Sem) fun f => do pure (f.offset, ← sizeOf f.type)).run P w = .ok places w := by
  induction l with
  | nil => intro places h w; simp at h; subst h; rfl
  | cons f l ih =>
    intro places h w
    simp only [List.mapM_cons, Option.bind_eq_bind, Option.bind_eq_some_iff, Option.map_eq_some_iff] at h
    obtain ⟨p, ⟨i, hi, rfl⟩, ps, hps, h⟩ := h
    cases h
    have := ih ps hps w
    simp [List.mapM_cons, sizeOf, typeInfo, program, Sem.run, hi] at this ⊢
    simp [this]
theorem run_build {t : TypeId} {zero : List Value} {places : List (Nat × Nat)} (h : Lay P t zero places) (parts : Array (Nat × Value)) {cells : List Value} (hc : fillC places parts.toList zero = some cells) (w : World) : (Instr.build t parts).run P w = .ok (.agg cells.toArray) w := by
  obtain ⟨fs, h1, h2, h3⟩ := h
  have hp := run_places (P := P) fs.toList places h3 w
  have hp' : (fs.mapM (m := Sem) fun f => do pure (f.offset, ← sizeOf f.type)).run P w = .ok places.toArray w := by
    rw [Array.mapM_eq_mapM_toList]
    rw [Sem.run_map]
    rw [hp]; rfl
  have hf := fill_fillC places.toArray parts.toList zero.toArray
  rw [hc] at hf
  obtain ⟨cs, hcs, rfl⟩ := Option.map_eq_some_iff.1 hf
  simp only [Instr.build, Sem.run_bind, info_zero h2, Result.andThen_ok, run_underlying h1, hp', Value.cells, hcs, Sem.run_pure]
theorem yr_build {t : TypeId} {parts : Array (Nat × Operand)} {zero cells : List Value} {places : List (Nat × Nat)} {us : List Value} (ho : o.op = .build t parts) (hL : Lay P t zero places) (hz : zero.map cn0 = zero) (hx : Opds E (parts.toList.map (·.2)) us) (hn : ∀ u ∈ us, ∀ z, u ≠ .tuple z)
    (hc : fillC places ((parts.toList.map (·.1)).zip us) zero = some cells) : YR P E o (.agg cells.toArray) := yr_of fun ρ w hE => by
  have hm := hx.map hE (fun x hx => by simp [ho, Op.operands] at hx ⊢; exact hx)
  have hparts : ((parts.map fun (i, x) => (i, ρ x)).toList.map fun p => (p.1, cn p.2)) = (parts.toList.map (·.1)).zip us := by
    rw [← hm]
    simp only [Array.toList_map, List.map_map, List.zip_map']
    rfl
  have hnt : ∀ p ∈ (parts.map fun (i, x) => (i, ρ x)).toList, ∀ z, p.2 ≠ .tuple z := by
    intro p hp z he
    simp only [Array.toList_map, List.mem_map] at hp
    obtain ⟨⟨i, x⟩, hix, rfl⟩ := hp
    simp only at he
    have hu : cn (ρ x) ∈ us := by
      rw [← hm]
      simp only [List.map_map, List.mem_map]
      exact ⟨(i, x), hix, rfl⟩
    have := hn _ hu (z.map cn1)
    rw [he] at this
    exact this rfl
  have hcn := fillC_cn places (parts.map fun (i, x) => (i, ρ x)).toList zero hnt
  rw [hparts, hz, hc] at hcn
  obtain ⟨cs, hcs, hcs'⟩ := Option.map_eq_some_iff.1 hcn.symm
  refine ⟨.agg cs.toArray, ?_, by simp [cn, cn1, ← hcs']⟩
  have := run_build hL (parts.map fun (i, x) => (i, ρ x)) hcs w
  simp only [execOp, ho, Sem.run_bind, this, Result.andThen_ok, Sem.run_pure]
end
end Go.Proofs.Ytfkblhlkeglilaa

namespace Go.Proofs.Ytfkblhlkeglilaa
open Go.RowKit
set_option linter.unusedSimpArgs false
section
variable {P : Program} {n : Nat} {w0 : World} {O : List Ent} {E : Env} {o : Oper}
/-- What is known of an element type: its zero cells and its bytes. -/
def Elt (P : Program) (e : TypeId) (zero : List Value) (bytes : Nat) : Prop :=
  ∃ i z, P.info? e = some i ∧ i.zero = some z ∧ z.cells.toList = zero ∧ i.size = zero.length ∧ i.bytes = bytes ∧ zero.length ≠ 0
theorem Elt.mk' {e : TypeId} {zero : List Value} {bytes : Nat} (h : (P.info? e).map (fun i => (i.zero.map (·.cells.toList), i.size, i.bytes)) = some (some zero, zero.length, bytes)) (h0 : zero.length ≠ 0) : Elt P e zero bytes := by
  obtain ⟨i, hi, h⟩ := Option.map_eq_some_iff.1 h
  simp only [Prod.mk.injEq] at h
  obtain ⟨h1, h2, h3⟩ := h
  obtain ⟨z, hz, h1⟩ := Option.map_eq_some_iff.1 h1
  exact ⟨i, z, hi, hz, h1, h2, h3, h0⟩
theorem mul_zero_cases {a b : Nat} (h : a * b = 0) : a = 0 ∨ b = 0 := Nat.mul_eq_zero.1 h
def cycle (zero : List Value) : Nat → List Value
  | 0 => []
  | m + 1 => zero ++ cycle zero m
theorem cycle_length (zero : List Value) (m : Nat) : (cycle zero m).length = m * zero.length := by
  induction m with
  | zero => simp [cycle]
  | succ m ih => simp [cycle, ih, Nat.add_mul, Nat.add_comm]
theorem cycle_get (zero : List Value) : ∀ (m j : Nat), j < m * zero.length → (cycle zero m)[j]? = zero[j % zero.length]?
  | 0, j, h => by simp at h
  | m + 1, j, h => by
    have hz : 0 < zero.length := by rcases Nat.eq_zero_or_pos zero.length with h' | h'; · rw [h'] at h; simp at h
                                    · exact h'
    simp only [cycle]
    by_cases hj : j < zero.length
    · rw [List.getElem?_append_left hj, Nat.mod_eq_of_lt hj]
    · rw [List.getElem?_append_right (by omega), cycle_get zero m (j - zero.length) (by rw [Nat.add_mul] at h; omega), Nat.mod_eq_sub_mod (a := j) (by omega)]
theorem range_cycle (zero : Array Value) (m : Nat) (hz : 0 < zero.size) : ((Array.range (m * zero.size)).map (zero[· % zero.size]!)).toList = cycle zero.toList m := by
  apply List.ext_getElem?
  intro j
  by_cases hj : j < m * zero.size
  · have hm := Nat.mod_lt j hz
    rw [cycle_get zero.toList m j (by simpa using hj)]
    simp only [Array.toList_map, Array.toList_range, List.getElem?_map, List.getElem?_range hj, Option.map_some, Array.length_toList, Array.getElem?_toList]
    rw [Array.getElem?_eq_getElem hm, getElem!_pos zero (j % zero.size) hm]
  · rw [List.getElem?_eq_none (by simp; omega), List.getElem?_eq_none (by rw [cycle_length]; simp; omega)]
theorem cycle_map (f : Value → Value) (zero : List Value) (m : Nat) : (cycle zero m).map f = cycle (zero.map f) m := by
  induction m with
  | zero => rfl
  | succ m ih => simp [cycle, ih]
/-- make([]T, n) -/
theorem yn_makeSlice {t e : TypeId} {x y : Operand} {m bytes : Nat} {zero : List Value} (ho : o.op = .makeSlice t x y) (ht : P.underlying t = some (.slice e)) (hE' : Elt P e zero bytes) (hzc : zero.map cn = zero)
    (hx : E.opd x = some (.int .i64 m)) (hy : E.opd y = some (.int .i64 m)) (hm : m * bytes ≤ 140737488355328) (hm' : m ≤ 140737488355328) :
    YN P w0 O E o (fun b : Nat => .slice (some ⟨b, 0, none⟩) m m) (fun b => [⟨some ⟨b, 0, none⟩, cycle zero m, m * zero.length, e⟩]) := by
  intro ρ w hE hw
  obtain ⟨i, z, h1, h2, h3, h4, h5, h6⟩ := hE'
  have e1 := cn_int (hE.get (x := x) (by simp [ho, Op.operands]) hx)
  have e2 := cn_int (hE.get (x := y) (by simp [ho, Op.operands]) hy)
  have hw1 : IntKind.i64.wrap (m : Int) = m := IntWalk.i64_in _ (by omega)
  have hsz : z.cells.size = zero.length := by rw [← h3]; simp
  have hbm : (bytes : Int) * m ≤ 281474976710656 := by
    have h8 : ((m * bytes : Nat) : Int) ≤ ((140737488355328 : Nat) : Int) := Int.ofNat_le.2 hm
    rw [Int.natCast_mul] at h8
    rw [Int.mul_comm]; omega
  have hr : (execOp ρ o).run P w = .ok (.value (.slice (some ⟨w.heap.size, 0, none⟩) m m)) (w.alloc (.cells (cycle zero m).toArray e)) := by
    have hnr : (newRow e ((Array.range (m * zero.length)).map (z.cells[· % z.cells.size]!))).run P w = .ok ⟨w.heap.size, 0, none⟩ (w.alloc (.cells (cycle zero m).toArray e)) := by
      rw [run_newRow, ← hsz, ← h3, ← range_cycle z.cells m (by omega)]
    have hask : (askRoom (m * bytes)).run P w = .ok () w := by
      unfold askRoom roomBytes
      rw [if_neg (by omega)]; rfl
    by_cases hm0 : m * zero.length = 0
    · have hm00 : m = 0 := by
        rcases mul_zero_cases hm0 with h | h
        · exact h
        · exact absurd h h6
      subst hm00
      have hw0 : IntKind.i64.wrap 0 = 0 := by decide
      simp only [Nat.zero_mul] at hask
      simp [execOp, ho, e1, e2, Instr.makeSlice, run_underlying ht, asInt, asIntOf, typeInfo, h1, program, Sem.run, sizeOf, h4, hw0, hask, run_newRow, cycle]
      congr 2
      apply Array.ext'
      simp
    · have hm1 : m ≠ 0 := fun h => hm0 (by rw [h, Nat.zero_mul])
      have hnotneg : ¬ ((m : Int) < 0) := by omega
      have hng : ¬ (281474976710656 < (bytes : Int) * m) := by omega
      simp [execOp, ho, e1, e2, Instr.makeSlice, run_underlying ht, asInt, asIntOf, typeInfo, h1, program, Sem.run, sizeOf, h4, h5, hw1, hnotneg, hng, hask, hm1, h6, zeroValue, h2]
      rw [if_neg hm0, hnr]; rfl
  rw [hr]
  refine ⟨w.heap.size, rfl, below_alloc _ _ _, ?_, List.pairwise_singleton _ _⟩
  intro e' he'
  simp only [List.mem_singleton] at he'
  subst he'
  have := ent_new w (cycle zero m) (cycle zero m) e (by rw [cycle_map, hzc])
  rwa [cycle_length] at this
/-- []T{..} whose parts fill it -/
theorem yn_buildSlice {t e : TypeId} {m bytes : Nat} {parts : Array (Nat × Operand)} {zero : List Value} {us cells : List Value} (ho : o.op = .buildSlice t m parts) (ht : P.underlying t = some (.slice e)) (hE' : Elt P e zero bytes) (hzc : zero.map cn0 = zero) (hm : m * zero.length ≤ 16777216)
    (hx : Opds E (parts.toList.map (·.2)) us) (hn : ∀ u ∈ us, ∀ z, u ≠ .tuple z)
    (hc : fillC ((List.range m).map fun i => (i * zero.length, zero.length)) ((parts.toList.map (·.1)).zip us) (cycle zero m) = some cells) (hs : cells.all scal = true) :
    YN P w0 O E o (fun b : Nat => .slice (some ⟨b, 0, none⟩) m m) (fun b => [⟨some ⟨b, 0, none⟩, cells, m * zero.length, e⟩]) := by
  intro ρ w hE hw
  obtain ⟨i, z, h1, h2, h3, h4, h5, h6⟩ := hE'
  have hsz : z.cells.size = zero.length := by rw [← h3]; simp
  have hm' := hx.map hE (fun x hx => by simp [ho, Op.operands] at hx ⊢; exact hx)
  have hparts : ((parts.map fun (i, x) => (i, ρ x)).toList.map fun p => (p.1, cn p.2)) = (parts.toList.map (·.1)).zip us := by
    rw [← hm']
    simp only [Array.toList_map, List.map_map, List.zip_map']
    rfl
  have hnt : ∀ p ∈ (parts.map fun (i, x) => (i, ρ x)).toList, ∀ z, p.2 ≠ .tuple z := by
    intro p hp z he
    simp only [Array.toList_map, List.mem_map] at hp
    obtain ⟨⟨i, x⟩, hix, rfl⟩ := hp
    simp only at he
    have hu : cn (ρ x) ∈ us := by
      rw [← hm']
      simp only [List.map_map, List.mem_map]
      exact ⟨(i, x), hix, rfl⟩
    have := hn _ hu (z.map cn1)
    rw [he] at this
    exact this rfl
  have hcn := fillC_cn ((List.range m).map fun i => (i * zero.length, zero.length)) (parts.map fun (i, x) => (i, ρ x)).toList (cycle zero m) hnt
  rw [hparts, cycle_map, hzc, hc] at hcn
  obtain ⟨cs, hcs, hcs'⟩ := Option.map_eq_some_iff.1 hcn.symm
  -- the model's own filling: every index has a place there; here only those below m
  have hfill : ∀ (ps : List (Nat × Value)) (cells : Array Value) (out : List Value), fillC ((List.range m).map fun i => (i * zero.length, zero.length)) ps cells.toList = some out →
      Instr.fill (fun i => some (i * zero.length, zero.length)) cells ps = some out.toArray := by
    intro ps
    induction ps with
    | nil => intro cells out h; simp only [fillC, Option.some.injEq] at h; subst h; simp [Instr.fill]
    | cons p ps ih =>
      obtain ⟨i, v⟩ := p
      intro cells out h
      simp only [fillC] at h
      by_cases him : i < m
      · simp only [List.getElem?_map, List.getElem?_range him, Option.map_some] at h
        split at h
        · cases h
        · rename_i hne
          simp only [Instr.fill]
          rw [if_neg (by simpa using hne)]
          refine ih _ _ ?_
          rw [← h]
          congr 1
          have := foldl_setAt v.cells.toList (i * zero.length) 0 cells
          simp only [Nat.add_zero] at this
          rw [← this]
          rw [← Array.foldl_toList, Array.toList_zipIdx]
      · rw [List.getElem?_eq_none (by simp; omega)] at h
        cases h
  have hr : (execOp ρ o).run P w = .ok (.value (.slice (some ⟨w.heap.size, 0, none⟩) m m)) (w.alloc (.cells cs.toArray e)) := by
    by_cases hm0 : m * zero.length = 0
    · have hm00 : m = 0 := by
        rcases mul_zero_cases hm0 with h | h
        · exact h
        · exact absurd h h6
      subst hm00
      have hf := hfill _ #[] cs (by simpa [cycle] using hcs)
      simp [execOp, ho, Instr.buildSlice, run_underlying ht, info_size (show (P.info? e).map (·.size) = some zero.length by simp [h1, h4])]
      have hf' : Instr.fill (fun i => some (i * zero.length, zero.length)) #[] (parts.toList.map fun x => (x.1, ρ x.2)) = some cs.toArray := by simpa using hf
      rw [show Array.map (fun x => (default : Value)) (Array.range 0) = #[] from by apply Array.ext'; simp, hf']
      simp [run_newRow]
    · have hm1 : m ≠ 0 := fun h => hm0 (by rw [h, Nat.zero_mul])
      have hbig : ¬ (16777216 < m * zero.length) := by omega
      have hf := hfill _ ((Array.range (m * zero.length)).map (z.cells[· % z.cells.size]!)) cs (by rw [← hsz, range_cycle z.cells m (by omega), h3]; simpa [hsz] using hcs)
      simp [execOp, ho, Instr.buildSlice, run_underlying ht, info_size (show (P.info? e).map (·.size) = some zero.length by simp [h1, h4]), hbig, hm1, h6, info_zero (show (P.info? e).bind (·.zero) = some z by simp [h1, h2])]
      have hf' : Instr.fill (fun i => some (i * zero.length, zero.length)) ((Array.range (m * zero.length)).map (z.cells[· % z.cells.size]!)) (parts.toList.map fun x => (x.1, ρ x.2)) = some cs.toArray := by simpa using hf
      rw [if_neg hm0, hf']
      simp [run_newRow]
  rw [hr]
  refine ⟨w.heap.size, rfl, below_alloc _ _ _, ?_, List.pairwise_singleton _ _⟩
  intro e' he'
  simp only [List.mem_singleton] at he'
  subst he'
  have hcn1 : cs.map cn = cells := by
    rw [← hcs']
    apply List.map_congr_left
    intro v hv
    have : scal (cn0 v) = true := List.all_eq_true.1 hs _ (by rw [← hcs']; exact List.mem_map_of_mem hv)
    cases v <;> simp [cn0, scal] at this <;> rfl
  have hlen : cells.length = m * zero.length := by
    have key : ∀ (ps : List (Nat × Value)) (c out : List Value), fillC ((List.range m).map fun i => (i * zero.length, zero.length)) ps c = some out → out.length = c.length := by
      intro ps
      induction ps with
      | nil => intro c out h; simp only [fillC, Option.some.injEq] at h; rw [h]
      | cons p ps ih =>
        intro c out h
        simp only [fillC] at h
        split at h
        · cases h
        · split at h
          · cases h
          · rw [ih _ _ h, setAt_length]
    rw [key _ _ _ hc, cycle_length]
  have := ent_new w cs cells e hcn1
  rwa [hlen] at this
theorem fillC_row (places : List (Nat × Nat)) : ∀ (r l rest : List Value), rest.length = r.length → r.all scal = true → (∀ i, i < l.length + r.length → places[i]? = some (i, 1)) →
    fillC places ((List.range' l.length r.length).zip r) (l ++ rest) = some (l ++ r)
  | [], l, rest, h, _, _ => by
    have : rest = [] := List.eq_nil_of_length_eq_zero h
    subst this; simp [fillC]
  | u :: r, l, rest, h, hs, hp => by
    cases rest with
    | nil => simp at h
    | cons x rest =>
      simp only [List.all_cons, Bool.and_eq_true] at hs
      simp only [List.length_cons, Nat.add_right_cancel_iff] at h
      have hc : u.cells = #[u] := by cases u <;> simp [scal, Value.cells] at hs ⊢
      simp only [List.length_cons, List.range'_succ, List.zip_cons_cons, fillC, hp l.length (by simp)]
      rw [hc]
      have hset : setAt (l ++ x :: rest) l.length [u] = (l ++ [u]) ++ rest := by
        simp only [setAt]
        rw [List.set_append_right _ _ (Nat.le_refl _), Nat.sub_self, List.set_cons_zero, List.append_assoc]; rfl
      rw [if_neg (by simp), hset]
      have ih := fillC_row places r (l ++ [u]) rest h hs.2 (fun i hi => hp i (by simp at hi ⊢; omega))
      simp only [List.length_append, List.length_cons, List.length_nil, Nat.zero_add] at ih
      rw [ih]; simp
/-- []T{x, y, ..}, elements of one cell -/
theorem yn_lit {t e : TypeId} {m bytes : Nat} {parts : Array (Nat × Operand)} {z : Value} {us : List Value} (ho : o.op = .buildSlice t m parts) (ht : P.underlying t = some (.slice e)) (hE' : Elt P e [z] bytes) (hzc : cn0 z = z) (hm : m ≤ 16777216)
    (hx : Opds E (parts.toList.map (·.2)) us) (hn : ∀ u ∈ us, ∀ z, u ≠ .tuple z) (hi : parts.toList.map (·.1) = List.range m) (hl : us.length = m) (hs : us.all scal = true) :
    YN P w0 O E o (fun b : Nat => .slice (some ⟨b, 0, none⟩) m m) (fun b => [⟨some ⟨b, 0, none⟩, us, m * 1, e⟩]) := by
  refine yn_buildSlice ho ht hE' (by simp [hzc]) (by simpa using hm) hx hn ?_ hs
  rw [hi]
  have := fillC_row ((List.range m).map fun i => (i * [z].length, [z].length)) us [] (cycle [z] m) (by rw [cycle_length, hl]; simp) hs (fun i hi => by
    have him : i < m := by simpa [hl] using hi
    simp [him])
  simpa [List.range_eq_range', hl] using this
theorem ent_cells {Bs : Nat} {w : World} {a : Option Addr} {us : List Value} {cap : Nat} {ty : TypeId} (h : Ent.at Bs w ⟨a, us, cap, ty⟩) (hs : us.all scal = true) :
    (us = [] ∧ cap = 0) ∨ ∃ b c vs, a = some ⟨b, 0, none⟩ ∧ Bs ≤ b ∧ Frz w b c ty ∧ c.size = cap ∧ us.length ≤ cap ∧ c.toList.take us.length = vs ∧ vs.map cn = us ∧ vs.all scal = true := by
  rcases h with h | ⟨b, c, h1, h2, h3, h4, h5, h6⟩
  · exact .inl h
  · refine .inr ⟨b, c, _, h1, h2, h3, h4, h5, rfl, ?_, ?_⟩
    · apply List.ext_getElem?
      intro j
      simp only [List.getElem?_map, List.getElem?_take]
      by_cases hj : j < us.length
      · rw [if_pos hj]
        obtain ⟨v, hv, hu⟩ := h6 j _ (List.getElem?_eq_getElem hj)
        rw [Array.getElem?_toList, hv, List.getElem?_eq_getElem hj]
        simp [hu]
      · rw [if_neg hj, List.getElem?_eq_none (by omega)]; rfl
    · rw [List.all_eq_true]
      intro v hv
      obtain ⟨j, hj⟩ := List.getElem?_of_mem hv
      rw [List.getElem?_take] at hj
      split at hj
      · rename_i hlt
        obtain ⟨v', hv', hu'⟩ := h6 j _ (List.getElem?_eq_getElem hlt)
        rw [Array.getElem?_toList, hv'] at hj
        cases hj
        have := List.all_eq_true.1 hs _ (List.getElem_mem hlt)
        rw [← hu'] at this
        cases v <;> simp [cn, cn1, scal] at this ⊢
      · cases hj
/-- append(s, x...) -/
theorem yc_append {s x : Operand} {t e : TypeId} {zero : List Value} {bytes : Nat} {a b : Option Addr} {m c m2 c2 cap : Nat} {us news : List Value} {O' : Option Addr × Nat → List Ent} (ho : o.op = .call ⟨.builtin .append, #[s, x], #[t, t]⟩) (ht : P.underlying t = some (.slice e)) (hE' : Elt P e zero bytes)
    (hs : E.opd s = some (.slice a m c)) (hx : E.opd x = some (.slice b m2 c2)) (hO : UpdF O ⟨a, us, cap, e⟩ (fun p : Option Addr × Nat => ⟨p.1, us ++ news, p.2 * zero.length, e⟩) O') (hsee : Sees w0 O b news) (hcap : cap = c * zero.length) (hus : us.length = m * zero.length) (hnews : news.length = m2 * zero.length) (hsu : us.all scal = true) (hsn : news.all scal = true)
    (hbd : (m + m2) * bytes ≤ 140737488355328) (hbd' : m + m2 ≤ 140737488355328) :
    YC P w0 O E o (fun p : Option Addr × Nat => .slice p.1 (m + m2) p.2) O' := by
  intro ρ w F hE hw
  have e1 := cn_slice (hE.get (x := s) (by simp [ho, Op.operands, Call.operands]) hs)
  have e2 := cn_slice (hE.get (x := x) (by simp [ho, Op.operands, Call.operands]) hx)
  have hcl := hsee w (hw.sub (List.sublist_append_right F O))
  obtain ⟨A, B, rfl, hO'⟩ := hO.parts
  simp only [hO']
  rw [← List.append_assoc] at hw
  simp only [← List.append_assoc]
  have hent := (hw.ents ⟨a, us, cap, e⟩ (by simp))
  have hlt0 : w0.heap.size ≤ w.heap.size := hw.below.size
  obtain ⟨i, z, h1, h2, h3, h4, h5, h6⟩ := hE'
  have hsz : z.cells.size = zero.length := by rw [← h3]; simp
  have hex : ∀ r, (Builtin.append_ #[t, t] o.type #[.slice a m c, .slice b m2 c2]).run P w = r → (execOp ρ o).run P w = r.andThen fun v w' => .ok (.value v) w' := by
    intro r hr
    simp [execOp, ho, e1, e2, resolve, invoke, builtin, hr]
  by_cases hm2 : m2 = 0
  · -- nothing is appended
    subst hm2
    have hn0 : news = [] := List.eq_nil_of_length_eq_zero (by simpa using hnews)
    subst hn0
    have hmc : m ≤ c := by
      rcases hent with h | ⟨_, _, _, _, _, _, h', _⟩
      · have := h.1; simp only at this; subst this
        have : m * zero.length = 0 := by simpa using hus.symm
        rcases mul_zero_cases this with h | h
        · omega
        · exact absurd h h6
      · simp only at h'
        rw [hus, hcap] at h'
        exact Nat.le_of_mul_le_mul_right h' (by omega)
    have hr : (Builtin.append_ #[t, t] o.type #[.slice a m c, .slice b 0 c2]).run P w = .ok (.slice a m c) w := by
      have hfc : (Builtin.firstCells zero.length 0 (.slice b 0 c2)).run P w = .ok #[] w := by
        cases b <;> simp [Builtin.firstCells, loadCells, loadCellsFrom]
      cases a with
      | none => simp [Builtin.append_, run_underlying ht, sizeOf, typeInfo, program, Sem.run, h1, h4, Builtin.lenOf, hmc, hfc]
      | some p => simp [Builtin.append_, run_underlying ht, sizeOf, typeInfo, program, Sem.run, h1, h4, Builtin.lenOf, hmc, hfc, storeCells]
    rw [hex _ hr]
    refine ⟨(a, c), rfl, ?_⟩
    simp only [List.append_nil, ← hcap]
    exact hw
  · have hb : ∃ q, b = some q ∧ q.spot = none := by
      rcases hcl with h | ⟨q, hq, hsp, _⟩
      · subst h
        have : m2 * zero.length = 0 := by simpa using hnews.symm
        rcases mul_zero_cases this with h | h
        · exact absurd h hm2
        · exact absurd h h6
      · exact ⟨q, hq, hsp⟩
    obtain ⟨q, rfl, hsp⟩ := hb
    obtain ⟨nv, n1, n2, n3⟩ := hcl.cellsN news 0 (fun j u hj => by simpa using hj)
    obtain ⟨_, n4⟩ := map_cn0_of n3 hsn
    have n2' : ∀ j u, nv[j]? = some u → w.cell? (q.add j) = some u := fun j u hj => by
      have := n2 j u hj
      rw [Nat.zero_add] at this
      rwa [adr_add hsp]
    have hnl : nv.length = m2 * i.size := by rw [n1, hnews, h4]
    rcases ent_cells hent hsu with h | ⟨g, cc, vs, g1, g2, g3, g4, g5, g6, g7, g8⟩
    · -- nothing is there yet
      obtain ⟨hus0, hcap0⟩ := h
      subst hus0
      have hm0 : m = 0 := by
        have : m * zero.length = 0 := by simpa using hus.symm
        rcases mul_zero_cases this with h | h
        · exact h
        · exact absurd h h6
      subst hm0
      have hc0 : c = 0 := by
        rw [hcap] at hcap0
        rcases mul_zero_cases hcap0 with h | h
        · exact h
        · exact absurd h h6
      subst hc0
      have hr : (Builtin.append_ #[t, t] o.type #[.slice a 0 0, .slice (some q) m2 c2]).run P w =
          .ok (.slice (some ⟨w.heap.size, 0, none⟩) m2 (grownCap w m2 0 e)) (w.drew.alloc (.cells (nv.toArray ++ Builtin.zeroCells z.cells (grownCap w m2 0 e - m2)) e)) := by
        cases a with
        | none => exact run_append_nil (P := P) w t o.type e i z ht h1 h2 q m2 c2 nv hnl n2' (by omega) (by omega) (by rw [h5]; rw [Nat.zero_add] at hbd; omega)
        | some p =>
          have := run_append_grow (P := P) w t o.type e i z ht h1 h2 p 0 0 [] (by simp) (by simp) q m2 c2 nv hnl n2' (by omega) (by omega) (growslice_fits (by omega) (by rw [h5]; omega))
          simpa using this
      rw [hex _ hr]
      refine ⟨(some ⟨w.heap.size, 0, none⟩, grownCap w m2 0 e), by simp [cn, cn1, cn0], ?_⟩
      have hge := grownCap_ge w m2 0 e
      refine Hp.turn (b := w.heap.size) hw (fun h => absurd hcap0 h) hlt0 (fun _ => Nat.le_refl _) (Turns.of_below ((Below.refl _ w).drew.alloc (Nat.le_refl _) _) _) (.inr ⟨w.heap.size, _, rfl, hlt0, heap_alloc_at w.drew _ e, ?_, ?_, ?_⟩) (fun _ p hp => by cases hp; exact .inl rfl)
      · simp only [Array.size_append, List.size_toArray, size_zeroCells, hsz, n1, hnews, ← Nat.add_mul]
        congr 1
        omega
      · simp only [List.nil_append, hnews]
        exact Nat.mul_le_mul_right _ hge
      · intro j u hj
        simp only [List.nil_append] at hj
        rw [← n3] at hj
        simp only [List.getElem?_map, Option.map_eq_some_iff] at hj
        obtain ⟨v, hv, hu⟩ := hj
        refine ⟨v, ?_, hu⟩
        rw [Array.getElem?_append_left (by simpa using (List.getElem?_eq_some_iff.1 hv).1)]
        simpa using hv
    · subst g1
      have hvl : vs.length = us.length := by rw [← g7, List.length_map]
      have hcapm : m ≤ c := by
        rw [hus, hcap] at g5
        exact Nat.le_of_mul_le_mul_right g5 (by omega)
      by_cases hroom : m + m2 ≤ c
      · -- in place
        have hmi : m * i.size = us.length := by rw [hus, h4]
        have hfit : us.length + nv.length ≤ cc.size := by rw [hnl, g4, hcap, ← hmi, h4, ← Nat.add_mul]; exact Nat.mul_le_mul_right _ hroom
        have hfull : Ent.at w0.heap.size w ⟨some ⟨g, 0, none⟩, cc.toList.map cn, cap, e⟩ := by
          refine .inr ⟨g, cc, rfl, g2, g3, g4, by simp [g4], fun j u hj => ?_⟩
          simp only [List.getElem?_map, Option.map_eq_some_iff, Array.getElem?_toList] at hj
          obtain ⟨v, hv, hu⟩ := hj
          exact ⟨v, hv, hu⟩
        obtain ⟨b', w', r1, r2, r3, r4⟩ := run_storeCells_ent (P := P) nv (cc.toList.map cn) 0 us.length w (some ⟨g, 0, none⟩) cap e n4 (by simpa using hfit) hfull
        have hbb : b' = g := by
          have hnv : nv ≠ [] := by
            intro h0
            rw [h0] at hnl
            have : m2 * i.size = 0 := by simpa using hnl.symm
            rcases mul_zero_cases this with h | h
            · exact hm2 h
            · exact h6 (by rw [← h4]; exact h)
          have := r2 hnv
          injection this with h; injection h with h; exact h.symm
        subst hbb
        have hfc : (Builtin.firstCells i.size m2 (.slice (some q) m2 c2)).run P w = .ok nv.toArray w := run_firstCells_some (P := P) w i.size m2 q m2 c2 nv hnl n2'
        have hr : (Builtin.append_ #[t, t] o.type #[.slice (some ⟨b', 0, none⟩) m c, .slice (some q) m2 c2]).run P w = .ok (.slice (some ⟨b', 0, none⟩) (m + m2) c) w' := by
          have r1' : (storeCells ((⟨b', 0, none⟩ : Addr).add (m * i.size)) nv).run P w = .ok () w' := by rw [hmi, adr_add (p := ⟨b', 0, none⟩) rfl]; exact r1
          simp [Builtin.append_, run_underlying ht, sizeOf, typeInfo, program, Sem.run, h1, Builtin.lenOf, hroom, hfc, r1']
        rw [hex _ hr]
        refine ⟨(some ⟨b', 0, none⟩, c), by simp [cn, cn1, cn0], ?_⟩
        have r5 : Ent.at w0.heap.size w' ⟨some ⟨b', 0, none⟩, us ++ news, c * zero.length, e⟩ := by
          rw [← hcap]
          rcases r4 with h | ⟨b2, c2', k1, k2, k3, k4, k5, k6⟩
          · exfalso
            have h := h.1
            simp only at h
            have := congrArg List.length h
            rw [setAt_length, List.length_map, Array.length_toList, List.length_nil] at this
            have hn1 : 0 < nv.length := by
              rw [hnl, h4]; exact Nat.mul_pos (by omega) (by omega)
            omega
          · refine .inr ⟨b2, c2', k1, k2, k3, k4, ?_, fun j u hj => k6 j u ?_⟩
            · simp only [List.length_append]
              rw [← n3, List.length_map]
              omega
            · simp only at hj ⊢
              rw [setAt_nth _ _ _ _ (by simpa using hfit)]
              have hjl := (List.getElem?_eq_some_iff.1 hj).1
              simp only [List.length_append] at hjl
              rw [← n3] at hj hjl
              by_cases hju : j < us.length
              · rw [if_neg (by omega)]
                rw [List.getElem?_append_left hju, ← g7, ← g6] at hj
                rw [List.map_take, List.getElem?_take, if_pos hju] at hj
                exact hj
              · rw [if_pos (by simp only [Nat.add_zero]; omega)]
                rw [List.getElem?_append_right (by omega)] at hj
                exact hj
        refine Hp.turn (b := b') hw (fun _ => ⟨_, rfl, rfl⟩) g2 (fun h => ?_) r3 r5 (fun _ p hp => by cases hp; exact .inl rfl)
        exact absurd h (by
          simp only
          rw [hcap]
          intro h
          rcases mul_zero_cases h with h | h
          · omega
          · exact h6 h)
      · have holds : ∀ j u, vs[j]? = some u → w.cell? ((⟨g, 0, none⟩ : Addr).add j) = some u := fun j u hj => by
          rw [adr_add rfl]
          rw [← g6, List.getElem?_take] at hj
          split at hj
          · rw [show adr (some ⟨g, 0, none⟩) j = ⟨g, j, none⟩ from by simp [adr], g3.cell]
            simpa using hj
          · cases hj
        have hr := run_append_grow (P := P) w t o.type e i z ht h1 h2 ⟨g, 0, none⟩ m c vs (by rw [hvl, hus, h4]) holds q m2 c2 nv hnl n2' (by omega) (by omega) (growslice_fits (by omega) (by rw [h5]; omega))
        rw [hex _ hr]
        refine ⟨(some ⟨w.heap.size, 0, none⟩, grownCap w (m + m2) c e), by simp [cn, cn1, cn0], ?_⟩
        have hge := grownCap_ge w (m + m2) c e
        have hbel : Below w.heap.size w (w.drew.alloc (.cells (vs.toArray ++ nv.toArray ++ Builtin.zeroCells z.cells (grownCap w (m + m2) c e - (m + m2))) e)) := (Below.refl _ w).drew.alloc (Nat.le_refl _) _
        have hg : g < w.heap.size := g3.lt
        have hnew : Ent.at w0.heap.size (w.drew.alloc (.cells (vs.toArray ++ nv.toArray ++ Builtin.zeroCells z.cells (grownCap w (m + m2) c e - (m + m2))) e)) ⟨some ⟨w.heap.size, 0, none⟩, us ++ news, grownCap w (m + m2) c e * zero.length, e⟩ := by
          refine .inr ⟨w.heap.size, _, rfl, hlt0, heap_alloc_at w.drew _ e, ?_, ?_, ?_⟩
          · simp only [Array.size_append, List.size_toArray, size_zeroCells, hsz, n1, hnews, hvl, hus, ← Nat.add_mul]
            congr 1
            omega
          · simp only [List.length_append, hus, hnews, ← Nat.add_mul]
            exact Nat.mul_le_mul_right _ hge
          · intro j u hj
            simp only at hj
            rw [← g7, ← n3, ← List.map_append, List.getElem?_map, Option.map_eq_some_iff] at hj
            obtain ⟨v, hv, hu⟩ := hj
            refine ⟨v, ?_, hu⟩
            have hjl := (List.getElem?_eq_some_iff.1 hv).1
            rw [Array.getElem?_append_left (by simpa using hjl)]
            rw [← List.getElem?_toArray] at hv
            simpa using hv
        by_cases hc0 : c = 0
        · have hz : cap = 0 := by rw [hcap, hc0, Nat.zero_mul]
          exact Hp.turn (b := w.heap.size) hw (fun h => absurd hz h) hlt0 (fun _ => Nat.le_refl _) (Turns.of_below hbel _) hnew (fun _ p hp => by cases hp; exact .inl rfl)
        · exact Hp.turn (b := g) hw (fun _ => ⟨_, rfl, rfl⟩) g2 (fun h => absurd h (by
            simp only
            rw [hcap]
            intro h
            rcases mul_zero_cases h with h | h
            · exact hc0 h
            · exact h6 h)) (Turns.of_below hbel _) hnew (fun _ p hp => by cases hp; exact .inr (Nat.le_refl _))
/-- .. the element's size as a numeral -/
theorem yc_appendz {s x : Operand} {t e : TypeId} {zero : List Value} {bytes : Nat} {a b : Option Addr} {m c m2 c2 cap : Nat} {us news : List Value} {O' : Option Addr × Nat → List Ent} (z : Nat) (hz : zero.length = z) (ho : o.op = .call ⟨.builtin .append, #[s, x], #[t, t]⟩) (ht : P.underlying t = some (.slice e)) (hE' : Elt P e zero bytes)
    (hs : E.opd s = some (.slice a m c)) (hx : E.opd x = some (.slice b m2 c2)) (hO : UpdF O ⟨a, us, cap, e⟩ (fun p : Option Addr × Nat => ⟨p.1, us ++ news, p.2 * z, e⟩) O') (hsee : Sees w0 O b news) (hcap : cap = c * z) (hus : us.length = m * z) (hnews : news.length = m2 * z) (hsu : us.all scal = true) (hsn : news.all scal = true)
    (hbd : (m + m2) * bytes ≤ 140737488355328) (hbd' : m + m2 ≤ 140737488355328) :
    YC P w0 O E o (fun p : Option Addr × Nat => .slice p.1 (m + m2) p.2) O' := by
  subst hz
  exact yc_append ho ht hE' hs hx hO hsee hcap hus hnews hsu hsn hbd hbd'
end
end Go.Proofs.Ytfkblhlkeglilaa
