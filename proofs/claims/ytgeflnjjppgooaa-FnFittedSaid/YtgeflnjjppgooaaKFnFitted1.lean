/- Own texts of this claim, merged: Short, Core, Float, Rules, Calls, Make, Region, Kit, Flo, Nar, Shut, Nest, Solve, Design, Bits. -/
import Derived.KernelRfl
import Derived.WalkKit
import Derived.WalkLawsBesides
import Derived.Deep.Draws
import Derived.Deep.Cut
import Derived.Deep.Slices
import Derived.Laws.Cover2
import Derived.Carry
import Derived.ProofKit
namespace Go.Proofs.Ytgeflnjjppgooaa
theorem zz0 {P : Prop} (h : P := by first | exact Sees.root (by assumption) | exact Sees.own (by repeat (first | exact List.mem_cons_self | exact List.mem_append_left _ (by assumption) | apply List.mem_cons_of_mem | apply List.mem_append_right)) | exact Sees.root (hR _ (by omega)) | exact Sees.own (RowsIn.mem (by repeat (first | exact RowsIn.here | exact RowsIn.last | apply RowsIn.there | apply RowsIn.thereS)) _ (by omega)) | exact Sees.own (WRowsIn.mem (by repeat (first | exact WRowsIn.here | exact WRowsIn.last | apply WRowsIn.there | apply WRowsIn.thereS)) _ (by omega))) : P := h
theorem zz1 {P : Prop} (h : P := by first | exact Sees.root (by assumption) w hw | exact Sees.own (by repeat (first | exact List.mem_cons_self | exact List.mem_append_left _ (by assumption) | apply List.mem_cons_of_mem | apply List.mem_append_right)) w hw) : P := h
theorem zz2 {P : Prop} (h : P := by (try dsimp only); have h71 := valid_small (valid_is (dd_valid hd44)); have h73 := hd44.n2; have h74 := hd44.n1; have h75 := hd44.m1; have h76 := hd44.m2; have q1 := hG.la; have q2 := hG.ll; have q3 := hG.lb; have q4 := hG.lx; have q5 : (xss44.getD 0 []).length * (xss44.getD 0 []).length ≤ 9 := Nat.mul_le_mul h73 h73; omega) : P := h
theorem zz3 {P : Prop} (h : P := by first | rfl | omega | (push_cast; rfl) | (push_cast; omega) | exact tmod_nat _ _) : P := h
theorem zz4 {P : Prop} (h : P := by (try dsimp only); have h71 := valid_small (valid_is (dd_valid hd44)); have h73 := hd44.n2; have h74 := hd44.n1; have h75 := hd44.m1; have h76 := hd44.m2; have q1 := hG.la; have q2 := hG.ll; have q3 := hG.lb; have q4 := hG.lx; have q5 : (xss44.getD 0 []).length * (xss44.getD 0 []).length ≤ 9 := Nat.mul_le_mul h73 h73; first | omega | (rw [blockA_length]; omega)) : P := h
theorem zz5 {P : Prop} (h : P := by first | exact Sees.root (by assumption) | exact Sees.own (by (try simp only [List.append_assoc, List.cons_append, List.nil_append]); repeat (first | exact List.mem_cons_self | exact List.mem_append_left _ (by assumption) | apply List.mem_cons_of_mem | apply List.mem_append_right)) | exact Sees.root (hR _ (by omega)) | exact Sees.own (RowsIn.mem (by (try simp only [List.append_assoc, List.cons_append, List.nil_append]); repeat (first | exact RowsIn.here | exact RowsIn.last | apply RowsIn.there | apply RowsIn.thereS)) _ (by omega)) | exact Sees.own (WRowsIn.mem (by (try simp only [List.append_assoc, List.cons_append, List.nil_append]); repeat (first | exact WRowsIn.here | exact WRowsIn.last | apply WRowsIn.there | apply WRowsIn.thereS)) _ (by omega))) : P := h
theorem zz6 {P : Prop} (h : P := by apply Pick.cons1; (· repeat (first | exact Rem.here | exact Rem.all | exact Rem.hereS | apply Rem.there | apply Rem.thereS)); apply Pick.cons1; (· repeat (first | exact Rem.here | exact Rem.all | exact Rem.hereS | apply Rem.there | apply Rem.thereS)); apply Pick.cons1; (· repeat (first | exact Rem.here | exact Rem.all | exact Rem.hereS | apply Rem.there | apply Rem.thereS)); apply Pick.cons1; (· repeat (first | exact Rem.here | exact Rem.all | exact Rem.hereS | apply Rem.there | apply Rem.thereS)); apply Pick.cons1; (· repeat (first | exact Rem.here | exact Rem.all | exact Rem.hereS | apply Rem.there | apply Rem.thereS)); apply Pick.cons1; (· repeat (first | exact Rem.here | exact Rem.all | exact Rem.hereS | apply Rem.there | apply Rem.thereS)); apply Pick.app1; (· repeat (first | exact Rem.here | exact Rem.all | exact Rem.hereS | apply Rem.there | apply Rem.thereS)); exact Pick.nil) : P := h
theorem zz7 {P : Prop} (h : P := by first | exact Rws.root (by assumption) hw | exact Rws.own (by repeat (first | exact RowsIn.here | exact RowsIn.last | apply RowsIn.there | apply RowsIn.thereS)) hw) : P := h
theorem zz8 {P : Prop} (h : P := by repeat (first | exact UpdF.here | apply UpdF.there | apply UpdF.thereS)) : P := h
theorem zz9 {P : Prop} (h : P := by first | omega | (rw [addL_length, hlA]; omega) | (rw [addL_length, hlB]; omega) | (rw [dgA_length, hlA]; omega) | (rw [blockA_length]; omega) | (rw [blockB_length]; omega)) : P := h
theorem zz10 {P : Prop} (h : P := by first | exact fl_length _ | (rw [fl_length]; omega)) : P := h
theorem zz11 {P : Prop} (h : P := by first | exact fl_length _ | exact hd_length _ _ | (rw [fd_length]; first | exact sBi_length | exact sBl_length) | (rw [fl_length]; exact blockA_length _ _ _ _ _)) : P := h
theorem zz12 {P : Prop} (h : P := by first | exact fl_length _ | exact hd_length _ _ | (rw [fl_length, addL_length]; first | exact hlA _ | exact hlB _) | (rw [fl_length, dgA_length]; exact hlA _) | (rw [fl_length]; first | exact blockA_length _ _ _ _ _ | exact blockB_length _ _ _ _ _ _)) : P := h
theorem zz13 {P : Prop} (h : P := by first | exact fl_length _ | exact hd_length _ _ | (rw [fl_length]; omega)) : P := h
end Go.Proofs.Ytgeflnjjppgooaa

namespace Go.Proofs.Ytgeflnjjppgooaa
open Go.RowKit
def qn : FloatKind → Nat
  | .f32 => 0x7fc00000
  | .f64 => 0x7ff8000000000001
def fnan (k : FloatKind) (b : Nat) : Bool := (k.decode b).isNaN
def cb (k : FloatKind) (b : Nat) : Nat := if fnan k b then qn k else b
def cn0 : Value → Value
  | .float k b => .float k (cb k b)
  | .complex k a b => .complex k (cb k a) (cb k b)
  | v => v
def cn1 : Value → Value
  | .agg cs => .agg (cs.map cn0)
  | v => cn0 v
def cn : Value → Value
  | .tuple vs => .tuple (vs.map cn1)
  | v => cn1 v
theorem cn_int {v : Value} {k : IntKind} {n : Int} (h : cn v = .int k n) : v = .int k n := by
  cases v <;> simp [cn, cn1, cn0] at h ⊢ <;> exact h
theorem cn_bool {v : Value} {b : Bool} (h : cn v = .bool b) : v = .bool b := by
  cases v <;> simp [cn, cn1, cn0] at h ⊢ <;> exact h
theorem cn_pointer {v : Value} {p : Option Addr} (h : cn v = .pointer p) : v = .pointer p := by
  cases v <;> simp [cn, cn1, cn0] at h ⊢ <;> exact h
theorem cn_slice {v : Value} {p : Option Addr} {n c : Nat} (h : cn v = .slice p n c) : v = .slice p n c := by
  cases v <;> simp [cn, cn1, cn0] at h ⊢ <;> exact h
theorem cn_func {v : Value} {f : Fn} {a b : Array Value} (h : cn v = .func f a b) : v = .func f a b := by
  cases v <;> simp [cn, cn1, cn0] at h ⊢ <;> exact h
theorem cn_float {v : Value} {k : FloatKind} {x : Nat} (h : cn v = .float k x) : ∃ b, v = .float k b ∧ cb k b = x := by
  cases v <;> simp [cn, cn1, cn0] at h ⊢
  obtain ⟨rfl, h⟩ := h; exact ⟨_, ⟨rfl, rfl⟩, h⟩
theorem cn_agg {v : Value} {us : Array Value} (h : cn v = .agg us) : ∃ cs, v = .agg cs ∧ cs.map cn0 = us := by
  cases v <;> simp [cn, cn1, cn0] at h ⊢
  exact h
theorem cn_tuple {v : Value} {us : Array Value} (h : cn v = .tuple us) : ∃ cs, v = .tuple cs ∧ cs.map cn1 = us := by
  cases v <;> simp [cn, cn1, cn0] at h ⊢
  exact h
theorem width_pos (f : Ieee.Format) : 2 ^ f.width = 2 * f.signWeight := by
  unfold Ieee.Format.width Ieee.Format.signWeight
  rw [Nat.add_assoc, Nat.pow_add]
abbrev Env := List (Nat × Value)
def Env.get : Env → Nat → Option Value
  | [], _ => none
  | (s, u) :: E, t => match Nat.beq s t with | true => some u | false => Env.get E t
/-- The value of an operand. -/
def Env.opd (E : Env) : Operand → Option Value
  | .tmp t => E.get t
  | .const v => some (cn v)
  | .func f => some (.func (.func f) #[] #[])
  | .global g => some (.pointer (some ⟨g, 0, none⟩))
structure Models (n : Nat) (E : Env) (a : Act) : Prop where
  size : a.tmps.size = n
  defers : a.defers = []
  get : ∀ t u, E.get t = some u → ∃ v, a.tmps[t]? = some v ∧ cn v = u
theorem Models.opd {n : Nat} {E : Env} {a : Act} (h : Models n E a) {x : Operand} {u : Value} (hx : E.opd x = some u) : cn (a.eval x) = u := by
  cases x with
  | tmp t =>
    obtain ⟨v, hv, hu⟩ := h.get t u hx
    simp [Act.eval, hv, hu]
  | const v => simp only [Env.opd, Option.some.injEq] at hx; subst hx; rfl
  | func f => simp only [Env.opd, Option.some.injEq] at hx; subst hx; rfl
  | global g => simp only [Env.opd, Option.some.injEq] at hx; subst hx; rfl
theorem Models.put {n : Nat} {E : Env} {a : Act} (h : Models n E a) {d : Nat} (hd : d < n) {v u : Value} (hv : cn v = u) : Models n ((d, u) :: E) (a.put (some d) v) := by
  refine ⟨by simp [Act.put, h.size], h.defers, fun t u' ht => ?_⟩
  simp only [Env.get] at ht
  cases hb : Nat.beq d t with
  | true =>
    rw [hb] at ht
    have e : d = t := Nat.eq_of_beq_eq_true hb
    subst e
    simp only [Option.some.injEq] at ht
    subst ht
    exact ⟨v, by simp [Act.put, h.size, hd], hv⟩
  | false =>
    rw [hb] at ht
    have e : d ≠ t := by intro e; subst e; simp at hb
    obtain ⟨v', h1, h2⟩ := h.get t u' ht
    exact ⟨v', by simp [Act.put, Array.getElem?_setIfInBounds_ne e, h1], h2⟩
theorem Models.mono {n : Nat} {E E' : Env} {a : Act} (h : Models n E a) (he : ∀ t u, E'.get t = some u → E.get t = some u) : Models n E' a :=
  ⟨h.size, h.defers, fun t u ht => h.get t u (he t u ht)⟩
/-- From the address a on the cells us lie (canonical). -/
def Cl (w : World) (a : Option Addr) (us : List Value) : Prop :=
  us = [] ∨ ∃ p, a = some p ∧ p.spot = none ∧ ∀ i u, us[i]? = some u → ∃ v, w.cell? ⟨p.block, p.off + i, none⟩ = some v ∧ cn v = u
theorem World.block_lt_of_cell {w : World} {p : Addr} {v : Value} (h : w.cell? p = some v) : p.block < w.heap.size := by
  unfold World.cell? at h
  rcases Nat.lt_or_ge p.block w.heap.size with h' | h'
  · exact h'
  · rw [Array.getElem?_eq_none h'] at h; simp at h
theorem Cl.below {w w' : World} {a : Option Addr} {us : List Value} (h : Cl w a us) (hb : Below w.heap.size w w') : Cl w' a us := by
  rcases h with h | ⟨p, h1, h2, h3⟩
  · exact .inl h
  · refine .inr ⟨p, h1, h2, fun i u hu => ?_⟩
    obtain ⟨v, hv, hu⟩ := h3 i u hu
    exact ⟨v, by rw [hb.cell (World.block_lt_of_cell hv)]; exact hv, hu⟩
theorem Cl.sub {w : World} {a : Option Addr} {us : List Value} (h : Cl w a us) (vs : List Value) (hv : ∀ (i : Nat) u, vs[i]? = some u → us[i]? = some u) : Cl w a vs := by
  cases vs with
  | nil => exact .inl rfl
  | cons v0 vs =>
    rcases h with h | ⟨p, h1, h2, h3⟩
    · have := hv 0 v0 rfl
      rw [h] at this; simp at this
    · exact .inr ⟨p, h1, h2, fun i u hu => h3 i u (hv i u hu)⟩
/-- A block of the call's own (or nothing): it lies at the head of a block, holds us (canonical), and has cap cells. -/
structure Ent where
  a : Option Addr
  us : List Value
  cap : Nat
  ty : TypeId
/-- The block b holds the cells c; none of them shares its bytes with a string (what is marked lies behind the end). -/
def Frz (w : World) (b : Nat) (c : Array Value) (ty : TypeId) : Prop := ∃ z : Nat × Nat, w.heap[b]? = some (.cells c ty z) ∧ (z = (0, 0) ∨ (ty = 5 ∧ z = (c.size, c.size + 1)))
theorem Frz.lt {w : World} {b : Nat} {c : Array Value} {ty : TypeId} (h : Frz w b c ty) : b < w.heap.size := by
  obtain ⟨z, h, _⟩ := h
  rcases Nat.lt_or_ge b w.heap.size with h' | h'
  · exact h'
  · rw [Array.getElem?_eq_none h'] at h; simp at h
theorem Frz.cell {w : World} {b : Nat} {c : Array Value} {ty : TypeId} (h : Frz w b c ty) (i : Nat) : w.cell? ⟨b, i, none⟩ = c[i]? := by
  obtain ⟨z, h, _⟩ := h
  simp [World.cell?, h]
theorem Frz.melt {w : World} {b i : Nat} {c : Array Value} {ty : TypeId} (h : Frz w b c ty) (hi : i < c.size) : w.frozen? ⟨b, i, none⟩ = false := by
  obtain ⟨z, h, rfl | ⟨_, rfl⟩⟩ := h
  · simp [World.frozen?, h]
  · simp [World.frozen?, h]; omega
theorem Frz.same {w w' : World} {b : Nat} {c : Array Value} {ty : TypeId} (h : Frz w b c ty) (he : w'.heap[b]? = w.heap[b]?) : Frz w' b c ty := by
  obtain ⟨z, h, hz⟩ := h
  exact ⟨z, he.trans h, hz⟩
theorem Frz.set {w : World} {b : Nat} {c : Array Value} {ty : TypeId} (h : Frz w b c ty) (i : Nat) (v : Value) : Frz (w.setCell ⟨b, i, none⟩ v) b (c.setIfInBounds i v) ty := by
  obtain ⟨z, h, hz⟩ := h
  exact ⟨z, by simp [World.setCell, Array.getElem?_modify, h], by simpa using hz⟩
def Ent.at (B : Nat) (w : World) (e : Ent) : Prop :=
  (e.us = [] ∧ e.cap = 0) ∨ ∃ (b : Nat) (c : Array Value), e.a = some ⟨b, 0, none⟩ ∧ B ≤ b ∧ Frz w b c e.ty ∧ c.size = e.cap ∧ e.us.length ≤ e.cap ∧
    ∀ (i : Nat) (u : Value), e.us[i]? = some u → ∃ v, c[i]? = some v ∧ cn v = u
def Ent.apart (e f : Ent) : Prop := e.cap ≠ 0 → f.cap ≠ 0 → ∀ p q, e.a = some p → f.a = some q → p.block ≠ q.block
theorem Ent.at.block {B : Nat} {w : World} {e : Ent} (h : e.at B w) (hc : e.cap ≠ 0) {p : Addr} (hp : e.a = some p) : B ≤ p.block ∧ p.block < w.heap.size := by
  rcases h with h | ⟨b, c, h1, h2, h3, _⟩
  · exact absurd h.2 hc
  · rw [h1] at hp
    cases hp
    exact ⟨h2, h3.lt⟩
theorem Ent.at.cl {B : Nat} {w : World} {e : Ent} (h : e.at B w) : Cl w e.a e.us := by
  rcases h with h | ⟨b, c, h1, h2, h3, h4, h5, h6⟩
  · exact .inl h.1
  · refine .inr ⟨_, h1, rfl, fun i u hu => ?_⟩
    obtain ⟨v, hv, hu⟩ := h6 i u hu
    exact ⟨v, by rw [Nat.zero_add, h3.cell]; exact hv, hu⟩
/-- What is known of memory in the middle of a call that began in the world w0. -/
structure Hp (w0 : World) (O : List Ent) (w : World) : Prop where
  below : Below w0.heap.size w0 w
  ents : ∀ e ∈ O, e.at w0.heap.size w
  apart : O.Pairwise Ent.apart
theorem Hp.refl (w : World) : Hp w [] w := ⟨Below.refl _ _, (fun _ h => by cases h), List.Pairwise.nil⟩
theorem Ent.at.of_below {B : Nat} {w w' : World} {e : Ent} (h : e.at B w) (hb : Below w.heap.size w w') : e.at B w' := by
  rcases h with h | ⟨b, c, h1, h2, h3, h4⟩
  · exact .inl h
  · exact .inr ⟨b, c, h1, h2, h3.same (hb.block b h3.lt), h4⟩
/-- The heap has grown, nothing that was there has turned. -/
theorem Hp.ext {w0 : World} {O : List Ent} {w w' : World} (h : Hp w0 O w) (hb : Below w.heap.size w w') : Hp w0 O w' :=
  ⟨h.below.trans (hb.mono h.below.size), fun e he => (h.ents e he).of_below hb, h.apart⟩
theorem Hp.sub {w0 : World} {O O' : List Ent} {w : World} (h : Hp w0 O w) (hs : O'.Sublist O) : Hp w0 O' w :=
  ⟨h.below, fun e he => h.ents e (hs.subset he), h.apart.sublist hs⟩
/-- Something new beside it. -/
theorem Hp.new {w0 : World} {O : List Ent} {w w' : World} (h : Hp w0 O w) (hb : Below w.heap.size w w') {e : Ent} (he : e.at w.heap.size w') : Hp w0 (e :: O) w' := by
  have h' := h.ext hb
  refine ⟨h'.below, fun f hf => ?_, .cons (fun f hf hc hc' p q hp hq => ?_) h'.apart⟩
  · rcases List.mem_cons.1 hf with rfl | hf
    · rcases he with he | ⟨b, c, h1, h2, h3⟩
      · exact .inl he
      · exact .inr ⟨b, c, h1, Nat.le_trans h.below.size h2, h3⟩
    · exact h'.ents f hf
  · have h1 := (he.block hc hp).1
    have h2 := ((h.ents f hf).block hc' hq).2
    omega
/-- Several new ones beside it. -/
theorem Hp.news {w0 : World} {O : List Ent} {w w' : World} (h : Hp w0 O w) (hb : Below w.heap.size w w') {N : List Ent} (hN : ∀ e ∈ N, e.at w.heap.size w') (hp : N.Pairwise Ent.apart) : Hp w0 (N ++ O) w' := by
  have h' := h.ext hb
  refine ⟨h'.below, fun f hf => ?_, List.pairwise_append.2 ⟨hp, h'.apart, fun e he f hf hc hc' p q hp hq => ?_⟩⟩
  · rcases List.mem_append.1 hf with hf | hf
    · rcases hN f hf with he | ⟨b, c, h1, h2, h3⟩
      · exact .inl he
      · exact .inr ⟨b, c, h1, Nat.le_trans h.below.size h2, h3⟩
    · exact h'.ents f hf
  · have h1 := ((hN e he).block hc hp).1
    have h2 := ((h.ents f hf).block hc' hq).2
    omega
/-- In all worlds of the class the cells us lie from a on. -/
def Sees (w0 : World) (O : List Ent) (a : Option Addr) (us : List Value) : Prop := ∀ w, Hp w0 O w → Cl w a us
theorem Sees.root {w0 : World} {O : List Ent} {a : Option Addr} {us : List Value} (h : Cl w0 a us) : Sees w0 O a us := fun _ hw => h.below hw.below
theorem Sees.own {w0 : World} {O : List Ent} {a : Option Addr} {us : List Value} {cap : Nat} {ty : TypeId} (h : (⟨a, us, cap, ty⟩ : Ent) ∈ O) : Sees w0 O a us := fun _ hw => (hw.ents _ h).cl
def ResOk (P : Program) (R : Value → World → Prop) : Result Next → Prop
  | .ok (.value v) w' => R v w'
  | .ok .skip w' => R undef w'
  | .ok (.enter f args) w' => Calls P f args w' (fun e w'' => ∃ v, e = .returned v ∧ R v w'')
  | _ => False
theorem ResOk.mono {P : Program} {R R' : Value → World → Prop} {r : Result Next} (h : ResOk P R r) (hr : ∀ v w, R v w → R' v w) : ResOk P R' r := by
  cases r with
  | ok x w =>
    cases x <;> simp only [ResOk] at h ⊢ <;> first | exact hr _ _ h | skip
    exact h.mono fun e w'' ⟨v, he, hv⟩ => ⟨v, he, hr _ _ hv⟩
  | halt x w => exact h.elim
theorem ResOk.upon {P : Program} {R : Value → World → Prop} {r : Result Next} (h : ResOk P R r) {o : Oper} {a : Act} {next : Act → World → Prop} {Q : Exit → Act → World → Prop}
    (hn : ∀ v w, R v w → next (a.put o.dst v) w) : o.upon P a next Q r := by
  cases r with
  | ok x w =>
    cases x <;> simp only [ResOk] at h <;> simp only [Oper.upon] <;> first | exact hn _ _ h | skip
    exact h.mono fun e w'' ⟨v, he, hv⟩ => by subst he; exact hn _ _ hv
  | halt x w => exact h.elim
/-- The operands of the operation read as E has them. -/
def Ev (E : Env) (o : Op) (ρ : Operand → Value) : Prop := ∀ x ∈ o.operands, ∀ u, E.opd x = some u → cn (ρ x) = u
theorem Models.ev {n : Nat} {E : Env} {a : Act} (h : Models n E a) (o : Op) : Ev E o a.eval := fun _ _ _ hx => h.opd hx
/-- The operation o, in whatever world of the class, yields a value that is canonically u, and stays in the class. -/
def Y (P : Program) (w0 : World) (O : List Ent) (E : Env) (o : Oper) (u : Value) : Prop :=
  ∀ ρ w, Ev E o.op ρ → Hp w0 O w → ResOk P (fun v w' => cn v = u ∧ Hp w0 O w') ((execOp ρ o).run P w)
/-- .. leads to R. -/
def YG (P : Program) (w0 : World) (O : List Ent) (E : Env) (o : Oper) (R : Value → World → Prop) : Prop :=
  ∀ ρ w, Ev E o.op ρ → Hp w0 O w → ResOk P (fun v w' => R (cn v) w') ((execOp ρ o).run P w)
section
variable {P : Program} {n : Nat} {w0 : World} {O : List Ent} {E : Env} {Q : Exit → Act → World → Prop} {ops : Array Oper}
def VX (n : Nat) (w0 : World) (O : List Ent) (E : Env) (R : Act → World → Prop) : Prop := ∀ a w, Models n E a → Hp w0 O w → R a w
def VL (P : Program) (n : Nat) (w0 : World) (O : List Ent) (E : Env) (ops : Array Oper) (Q : Exit → Act → World → Prop) (l : List Oper) : Prop := VX n w0 O E (wpList P ops Q l)
def VE (n : Nat) (w0 : World) (O : List Ent) (E : Env) (Q : Exit → Act → World → Prop) (e : Exit) : Prop := VX n w0 O E (Q e)
theorem VX.mono {E' : Env} {O' : List Ent} {R : Act → World → Prop} (h : VX n w0 O' E' R) (hE : ∀ t u, E'.get t = some u → E.get t = some u) (hO : ∀ w, Hp w0 O w → Hp w0 O' w) : VX n w0 O E R :=
  fun a w ha hw => h a w (ha.mono hE) (hO w hw)
theorem VL.op {o : Oper} {rest : List Oper} {d : Nat} {u : Value} (hg : o.guard = none) (hd : o.dst = some d) (hdn : d < n) (hy : Y P w0 O E o u)
    (h : VL P n w0 O ((d, u) :: E) ops Q rest) : VL P n w0 O E ops Q (o :: rest) := by
  intro a w ha hw
  refine wpList_plain hg fun K hK => ?_
  unfold Oper.wp
  refine (hy a.eval w (ha.ev _) hw).upon fun v w' hv => hK _ _ ?_
  exact h _ _ (by rw [hd]; exact ha.put hdn hv.1) hv.2
theorem yielded_of {a : Act} {j t : Nat} {b : Bool} (ha : Models n E a) (hj : (ops[j]?).bind (·.dst) = some t) (hb : E.get t = some (.bool b)) : yielded ops a.tmps j = some b := by
  obtain ⟨v, hv, hu⟩ := ha.get t _ hb
  have := cn_bool hu
  subst this
  simp [yielded, hj, hv]
theorem Env.get_shadow (t : Nat) (u : Value) (E : Env) (h : E.get t = some u) (s : Nat) : Env.get ((t, u) :: E) s = E.get s := by
  simp only [Env.get]
  cases hb : Nat.beq t s with
  | true =>
    have e : t = s := Nat.eq_of_beq_eq_true hb
    subst e
    exact h.symm
  | false => rfl
/-- A test that is not decided: both ways. -/
theorem VX.split {R : Act → World → Prop} (t : Nat) (b : Bool) (hb : E.get t = some (.bool b)) (ht : b = true → VX n w0 O ((t, .bool true) :: E) R) (hf : b = false → VX n w0 O ((t, .bool false) :: E) R) : VX n w0 O E R := by
  cases b with
  | true => exact (ht rfl).mono (fun s u hs => by rwa [Env.get_shadow t _ E hb s] at hs) (fun _ h => h)
  | false => exact (hf rfl).mono (fun s u hs => by rwa [Env.get_shadow t _ E hb s] at hs) (fun _ h => h)
theorem VE.then_exit {K : Act → World → Prop} {id : Nat} (h : VE n w0 O E Q (.exit id)) : VE n w0 O E (Exit.then K Q) (.exit id) := h
theorem VE.then_ret {K : Act → World → Prop} (h : VE n w0 O E Q .ret) : VE n w0 O E (Exit.then K Q) .ret := h
theorem VE.block_normal {id : Nat} (h : VE n w0 O E Q .normal) : VE n w0 O E (Exit.inBlock id Q) .normal := h
theorem VE.block_ret {id : Nat} (h : VE n w0 O E Q .ret) : VE n w0 O E (Exit.inBlock id Q) .ret := h
theorem VE.block_here {id : Nat} (h : VE n w0 O E Q .normal) : VE n w0 O E (Exit.inBlock id Q) (.exit id) := fun a w ha hw => by simpa [Exit.inBlock] using h a w ha hw
end
end Go.Proofs.Ytgeflnjjppgooaa

namespace Go.Proofs.Ytgeflnjjppgooaa
open Go.RowKit
theorem cb_of_num {k : FloatKind} {b : Nat} (h : fnan k b = false) (_ : b < 2 ^ k.format.width) : cb k b = b := by simp [cb, h]
theorem cb_num {k : FloatKind} {b : Nat} (h : fnan k b = false) : cb k b = b := by simp [cb, h]
theorem cb_of_nan {k : FloatKind} {b : Nat} (h : fnan k b = true) : cb k b = qn k := by simp [cb, h]
theorem fnan_qn (k : FloatKind) : fnan k (qn k) = true := by cases k <;> decide
theorem fnan_cb (k : FloatKind) (b : Nat) : fnan k (cb k b) = fnan k b := by
  cases h : fnan k b
  · rw [cb_num h, h]
  · rw [cb_of_nan h, fnan_qn]
theorem read_cb {k : FloatKind} {b : Nat} (h : fnan k b = false) : k.format.read (cb k b) = k.format.read b := by rw [cb_num h]
theorem read_nan {k : FloatKind} {b : Nat} (h : fnan k b = true) : ∃ s f, k.format.read b = .nan s f := by
  unfold fnan FloatKind.decode at h
  cases hr : k.format.read b <;> simp [hr, Ieee.Datum.isNaN] at h ⊢
theorem read_num {k : FloatKind} {b : Nat} (h : fnan k b = false) : (k.format.read b).isNaN = false := h
/-- the operations that hand back a datum: never a NaN -/
theorem sum_num {x y d : Ieee.Datum} (h : x.sum y = some d) : d.isNaN = false := by
  cases x <;> cases y <;> simp [Ieee.Datum.sum] at h <;> first | (subst h; rfl) | (obtain ⟨_, h⟩ := h; subst h; rfl)
theorem product_num {x y d : Ieee.Datum} (h : x.product y = some d) : d.isNaN = false := by
  cases x <;> cases y <;> simp [Ieee.Datum.product] at h <;> first | (subst h; rfl) | (obtain ⟨_, h⟩ := h; subst h; rfl)
theorem quotient_num {n : Nat} {x y d : Ieee.Datum} (h : x.quotient n y = some d) : d.isNaN = false := by
  cases x <;> cases y <;> simp only [Ieee.Datum.quotient] at h <;> try (first | (cases h; done) | (cases h; rfl))
  split at h
  · split at h
    · cases h
    · cases h; rfl
  · cases h; rfl
theorem root_num {n : Nat} {x d : Ieee.Datum} (h : x.root n = some d) : d.isNaN = false := by
  cases x <;> simp only [Ieee.Datum.root] at h
  · split at h
    · cases h; rfl
    · split at h
      · cases h
      · cases h; rfl
  · split at h
    · cases h
    · cases h; rfl
  · cases h
theorem read_word (f : Ieee.Format) (neg : Bool) {rung : Nat} (h : rung ≤ f.infRung) : (f.read (f.word neg rung)).isNaN = false := by
  have hlt := Ieee.Format.infRung_lt f
  have hs : 0 < f.signWeight := by omega
  have e : f.word neg rung % f.signWeight = rung := by
    unfold Ieee.Format.word
    split
    · rw [Nat.add_mod_left, Nat.mod_eq_of_lt (by omega)]
    · rw [Nat.mod_eq_of_lt (by omega)]
  unfold Ieee.Format.read
  simp only [e]
  split
  · rfl
  · split
    · rfl
    · split
      · rfl
      · omega
theorem write_num (f : Ieee.Format) {d : Ieee.Datum} (h : d.isNaN = false) : (f.read (f.write d)).isNaN = false := by
  cases d with
  | number s m e =>
    simp only [Ieee.Format.write, Ieee.Format.nearest]
    split
    · exact read_word f s (Nat.zero_le _)
    · exact read_word f s (Nat.min_le_right _ _)
  | infinity s => exact read_word f s (Nat.le_refl _)
  | nan s f => simp [Ieee.Datum.isNaN] at h
/-- An operation on two floats, on canonical words. -/
def fop (op : BinOp) (k : FloatKind) (x y : Nat) : Nat := (floatBits op k x y).getD (qn k)
@[reducible] def fdiv (k : FloatKind) := fop .quo k
theorem floatBits_num {op : BinOp} {k : FloatKind} {x y r : Nat} (h : floatBits op k x y = some r) : fnan k r = false := by
  unfold floatBits Ieee.Format.add Ieee.Format.sub Ieee.Format.mul Ieee.Format.div at h
  unfold fnan FloatKind.decode
  split at h
  · obtain ⟨d, hd, rfl⟩ := Option.map_eq_some_iff.1 h; exact write_num _ (sum_num hd)
  · obtain ⟨d, hd, rfl⟩ := Option.map_eq_some_iff.1 h; exact write_num _ (sum_num hd)
  · obtain ⟨d, hd, rfl⟩ := Option.map_eq_some_iff.1 h; exact write_num _ (product_num hd)
  · obtain ⟨d, hd, rfl⟩ := Option.map_eq_some_iff.1 h; exact write_num _ (quotient_num hd)
  · cases h
theorem sum_nan_left (s : Bool) (f : Nat) (y : Ieee.Datum) : (Ieee.Datum.nan s f).sum y = none := by cases y <;> rfl
theorem sum_nan_right (s : Bool) (f : Nat) (y : Ieee.Datum) : y.sum (Ieee.Datum.nan s f) = none := by cases y <;> rfl
theorem product_nan_left (s : Bool) (f : Nat) (y : Ieee.Datum) : (Ieee.Datum.nan s f).product y = none := by cases y <;> rfl
theorem product_nan_right (s : Bool) (f : Nat) (y : Ieee.Datum) : y.product (Ieee.Datum.nan s f) = none := by cases y <;> rfl
theorem quotient_nan_left (n : Nat) (s : Bool) (f : Nat) (y : Ieee.Datum) : (Ieee.Datum.nan s f).quotient n y = none := by cases y <;> rfl
theorem quotient_nan_right (n : Nat) (s : Bool) (f : Nat) (y : Ieee.Datum) : y.quotient n (Ieee.Datum.nan s f) = none := by cases y <;> rfl
theorem floatBits_nan_left {op : BinOp} {k : FloatKind} {x y : Nat} (h : fnan k x = true) : floatBits op k x y = none := by
  obtain ⟨s, f, hr⟩ := read_nan h
  unfold floatBits Ieee.Format.add Ieee.Format.sub Ieee.Format.mul Ieee.Format.div
  rw [hr]
  cases op <;> simp only [sum_nan_left, product_nan_left, quotient_nan_left, Option.map_none]
theorem floatBits_nan_right {op : BinOp} {k : FloatKind} {x y : Nat} (h : fnan k y = true) : floatBits op k x y = none := by
  obtain ⟨s, f, hr⟩ := read_nan h
  unfold floatBits Ieee.Format.add Ieee.Format.sub Ieee.Format.mul Ieee.Format.div
  rw [hr]
  cases op <;> simp only [sum_nan_right, product_nan_right, quotient_nan_right, Option.map_none, Ieee.Datum.opposite]
theorem floatBits_read {op : BinOp} {k : FloatKind} {x y x' y' : Nat} (hx : k.format.read x' = k.format.read x) (hy : k.format.read y' = k.format.read y) : floatBits op k x' y' = floatBits op k x y := by
  unfold floatBits Ieee.Format.add Ieee.Format.sub Ieee.Format.mul Ieee.Format.div
  rw [hx, hy]
theorem floatBits_cb (op : BinOp) (k : FloatKind) (x y : Nat) : floatBits op k (cb k x) (cb k y) = floatBits op k x y := by
  cases hx : fnan k x
  · cases hy : fnan k y
    · exact floatBits_read (read_cb hx) (read_cb hy)
    · rw [floatBits_nan_right (x := cb k x) (by rw [fnan_cb, hy]), floatBits_nan_right hy]
  · rw [floatBits_nan_left (by rw [fnan_cb, hx]), floatBits_nan_left hx]
theorem floatBits_lt {op : BinOp} {k : FloatKind} {x y r : Nat} (h : floatBits op k x y = some r) : r < 2 ^ k.format.width := by
  unfold floatBits at h
  split at h
  · exact k.format.add_lt h
  · exact k.format.sub_lt h
  · exact k.format.mul_lt h
  · exact k.format.div_lt h
  · cases h
theorem cut_nan (k : FloatKind) (x y t : Nat) : fnan k ((Question.nanBits k x y).cut t) = true := by
  cases k
  · have h : ∀ r : Nat, 2139095041 ≤ r % 2147483648 → (Ieee.single.read r).isNaN = true := by
      intro r hr
      have hsw : Ieee.single.signWeight = 2147483648 := by decide
      have hinf : Ieee.single.infRung = 2139095040 := by decide
      have hbin : Ieee.single.binade = 8388608 := by decide
      unfold Ieee.Format.read
      simp only [hsw, hinf, hbin]
      rw [if_neg (by omega), if_neg (by omega), if_neg (by omega)]
      rfl
    refine h _ ?_
    simp only [Question.cut]
    rcases Nat.mod_two_eq_zero_or_one t with ht | ht <;> rw [ht] <;> omega
  · have h : ∀ r : Nat, 9218868437227405313 ≤ r % 9223372036854775808 → (Ieee.double.read r).isNaN = true := by
      intro r hr
      have hsw : Ieee.double.signWeight = 9223372036854775808 := by decide
      have hinf : Ieee.double.infRung = 9218868437227405312 := by decide
      have hbin : Ieee.double.binade = 4503599627370496 := by decide
      unfold Ieee.Format.read
      simp only [hsw, hinf, hbin]
      rw [if_neg (by omega), if_neg (by omega), if_neg (by omega)]
      rfl
    refine h _ ?_
    simp only [Question.cut]
    rcases Nat.mod_two_eq_zero_or_one t with ht | ht <;> rw [ht] <;> omega
theorem cut_conv_nan (k : FloatKind) (x t : Nat) : fnan k ((Question.nanConv k x).cut t) = true := by
  have := cut_nan k 0 0 t
  cases k <;> exact this
theorem fop_cb (op : BinOp) (k : FloatKind) (x y : Nat) : fop op k (cb k x) (cb k y) = fop op k x y := by rw [fop, floatBits_cb, fop]
theorem cb_fop (op : BinOp) (k : FloatKind) (x y : Nat) : cb k (fop op k x y) = fop op k x y := by
  unfold fop
  cases h : floatBits op k x y with
  | none => rw [Option.getD_none, cb_of_nan (fnan_qn k)]
  | some r => rw [Option.getD_some, cb_of_num (floatBits_num h) (floatBits_lt h)]
theorem order_nan_left {k : FloatKind} {x y : Nat} (h : fnan k x = true) : k.format.order x y = none := by
  obtain ⟨s, f, hr⟩ := read_nan h
  unfold Ieee.Format.order
  rw [hr]; cases k.format.read y <;> rfl
theorem order_nan_right {k : FloatKind} {x y : Nat} (h : fnan k y = true) : k.format.order x y = none := by
  obtain ⟨s, f, hr⟩ := read_nan h
  unfold Ieee.Format.order
  rw [hr]; cases k.format.read x <;> rfl
theorem order_cb (k : FloatKind) (x y : Nat) : k.format.order (cb k x) (cb k y) = k.format.order x y := by
  cases hx : fnan k x
  · cases hy : fnan k y
    · unfold Ieee.Format.order; rw [read_cb hx, read_cb hy]
    · rw [order_nan_right (by rw [fnan_cb, hy]), order_nan_right hy]
  · rw [order_nan_left (by rw [fnan_cb, hx]), order_nan_left hx]
/-- A comparison of two floats. -/
def fcmp (op : BinOp) (k : FloatKind) (x y : Nat) : Bool :=
  match op with
  | .eql => k.format.order x y == some .eq
  | .neq => k.format.order x y != some .eq
  | .lss => k.format.order x y == some .lt
  | .leq => k.format.order x y == some .lt || k.format.order x y == some .eq
  | .gtr => k.format.order x y == some .gt
  | .geq => k.format.order x y == some .gt || k.format.order x y == some .eq
  | _ => false
theorem fcmp_cb (op : BinOp) (k : FloatKind) (x y : Nat) : fcmp op k (cb k x) (cb k y) = fcmp op k x y := by
  unfold fcmp; rw [order_cb]
/-- One kind to the other. -/
def fconv (src dst : FloatKind) (b : Nat) : Nat :=
  if src = dst then b else
  match src.decode b with
  | .nan _ _ => qn dst
  | d => dst.encode d
/-- A finite number that the other kind has not the room for. -/
def fover (src dst : FloatKind) (b : Nat) : Bool :=
  if src = dst then false else
  match src.decode b with
  | .number s m e => (dst.decode (dst.encode (.number s m e))).isInfinity
  | _ => false
theorem decode_cb (k : FloatKind) (x : Nat) : (k.decode (cb k x) = k.decode x ∧ fnan k x = false) ∨ (∃ s f s' f', k.decode x = .nan s f ∧ k.decode (cb k x) = .nan s' f') := by
  cases hx : fnan k x
  · exact .inl ⟨read_cb hx, rfl⟩
  · obtain ⟨s, f, hr⟩ := read_nan hx
    obtain ⟨s', f', hr'⟩ := read_nan (k := k) (b := cb k x) (by rw [fnan_cb, hx])
    exact .inr ⟨s, f, s', f', hr, hr'⟩
theorem fconv_cb (src dst : FloatKind) (x : Nat) (h : src ≠ dst) : fconv src dst (cb src x) = fconv src dst x := by
  unfold fconv
  rw [if_neg h, if_neg h]
  rcases decode_cb src x with ⟨h1, _⟩ | ⟨s, f, s', f', h1, h2⟩
  · rw [h1]
  · rw [h1, h2]
theorem fover_cb (src dst : FloatKind) (x : Nat) : fover src dst (cb src x) = fover src dst x := by
  unfold fover
  rcases decode_cb src x with ⟨h1, _⟩ | ⟨s, f, s', f', h1, h2⟩
  · rw [h1]
  · rw [h1, h2]
theorem encode_lt (k : FloatKind) (d : Ieee.Datum) : k.encode d < 2 ^ k.format.width := k.format.write_lt d
theorem cb_fconv (src dst : FloatKind) (x : Nat) (h : src ≠ dst) : cb dst (fconv src dst x) = fconv src dst x := by
  unfold fconv
  rw [if_neg h]
  cases hd : src.decode x with
  | nan s f => exact cb_of_nan (fnan_qn dst)
  | number s m e => exact cb_of_num (write_num dst.format (d := .number s m e) rfl) (encode_lt _ _)
  | infinity s => exact cb_of_num (write_num dst.format (d := .infinity s) rfl) (encode_lt _ _)
theorem qn_lt (k : FloatKind) : qn k < 2 ^ k.format.width := by cases k <;> decide
theorem fconv_lt (src dst : FloatKind) (x : Nat) (h : src ≠ dst) : fconv src dst x < 2 ^ dst.format.width := by
  unfold fconv
  rw [if_neg h]
  split
  · exact qn_lt dst
  · exact encode_lt _ _
theorem fop_lt (op : BinOp) (k : FloatKind) (x y : Nat) : fop op k x y < 2 ^ k.format.width := by
  unfold fop
  cases h : floatBits op k x y with
  | some r => exact floatBits_lt h
  | none => exact qn_lt k
/-- The opposite. -/
def fneg (k : FloatKind) (x : Nat) : Nat := cb k (Op.negFloat k x)
end Go.Proofs.Ytgeflnjjppgooaa

namespace Go.Proofs.Ytgeflnjjppgooaa
open Go.RowKit
/-- .. in every world whatever -/
def YR (P : Program) (E : Env) (o : Oper) (u : Value) : Prop :=
  ∀ ρ w, Ev E o.op ρ → ResOk P (fun v w' => cn v = u ∧ Below w.heap.size w w') ((execOp ρ o).run P w)
section
variable {P : Program} {n : Nat} {w0 : World} {O : List Ent} {E : Env} {Q : Exit → Act → World → Prop} {ops : Array Oper} {o : Oper} {rest : List Oper} {d : Nat}
/-- The operation comes to its turn: no guard, or one that is met. -/
def Wants (ops : Array Oper) (E : Env) (o : Oper) : Prop :=
  o.guard = none ∨ ∃ j b t, o.guard = some (j, b) ∧ (ops[j]?).bind (·.dst) = some t ∧ E.get t = some (.bool b)
theorem Wants.wanted {a : Act} (h : Wants ops E o) (ha : Models n E a) : Region.wanted o (yielded ops a.tmps) = true := by
  rcases h with h | ⟨j, b, t, h1, h2, h3⟩
  · simp [Region.wanted, h]
  · simp [Region.wanted, h1, yielded_of ha h2 h3]
theorem VL.stepG {R : Value → World → Prop} (hg : Wants ops E o) (hy : YG P w0 O E o R)
    (h : ∀ a w v, Models n E a → R (cn v) w → wpList P ops Q rest (a.put o.dst v) w) : VL P n w0 O E ops Q (o :: rest) := by
  intro a w ha hw
  refine wpList_step fun K hK => ?_
  rw [if_pos (hg.wanted ha)]
  unfold Oper.wp
  exact (hy a.eval w (ha.ev _) hw).upon fun v w' hv => hK _ _ (h a w' v ha hv)
theorem Ev.get {op : Op} {ρ : Operand → Value} (h : Ev E op ρ) {x : Operand} {u : Value} (hm : x ∈ op.operands) (hx : E.opd x = some u) : cn (ρ x) = u := h x hm u hx
theorem yr_of {u : Value} (h : ∀ ρ w, Ev E o.op ρ → ∃ v, (execOp ρ o).run P w = .ok (.value v) w ∧ cn v = u) : YR P E o u := fun ρ w hE => by
  obtain ⟨v, h1, h2⟩ := h ρ w hE
  rw [h1]; exact ⟨h2, Below.refl _ _⟩
theorem yr_extract {t : Operand} {i : Nat} {us : Array Value} {u : Value} (ho : o.op = .extract t i) (ht : E.opd t = some (.tuple us)) (hu : us[i]? = some u) (hn : ∀ z, u ≠ .tuple z) : YR P E o u := yr_of fun ρ w hE => by
  obtain ⟨cs, h1, h2⟩ := cn_tuple (hE.get (x := t) (by simp [ho, Op.operands]) ht)
  subst h2
  simp only [Array.getElem?_map, Option.map_eq_some_iff] at hu
  obtain ⟨v, hv, hu⟩ := hu
  refine ⟨v, by simp [execOp, ho, h1, Instr.extract, hv], ?_⟩
  cases v <;> simp [cn, cn1, cn0] at hu ⊢ <;> try exact hu
  exact absurd hu.symm (hn _)
def icmp (op : BinOp) (a b : Int) : Bool :=
  match op with
  | .eql => a == b
  | .neq => a != b
  | .lss => decide (a < b)
  | .leq => decide (a ≤ b)
  | .gtr => decide (a > b)
  | .geq => decide (a ≥ b)
  | _ => false
theorem below_drew (w : World) (k : Nat) : Below w.heap.size w { w with drawn := k } := ⟨rfl, rfl, rfl, Nat.le_refl _, fun _ _ => rfl⟩
theorem run_farith (op : BinOp) (t : TypeId) (k : FloatKind) (x y : Nat) (hop : op = .add ∨ op = .sub ∨ op = .mul ∨ op = .quo) (w : World) :
    ∃ r w', (binOp op t (.float k x) (.float k y)).run P w = .ok (.float k r) w' ∧ cb k r = fop op k x y ∧ Below w.heap.size w w' := by
  cases h : floatBits op k x y with
  | some r => exact ⟨r, w, run_float_arith w op t k x y r h, by rw [cb_of_num (floatBits_num h) (floatBits_lt h)]; simp [fop, h], Below.refl _ _⟩
  | none =>
    refine ⟨(Question.nanBits k x y).cut (w.tape w.drawn (.nanBits k x y)), { w with drawn := w.drawn + 1 }, ?_, ?_, below_drew _ _⟩
    · unfold floatBits at h
      rcases hop with rfl | rfl | rfl | rfl <;> simp only at h <;> simp [binOp, Op.floatArith, h, choose, Sem.run, Question.forced]
    · rw [cb_of_nan (cut_nan _ _ _ _)]; simp [fop, h]
theorem nearest_num (k : FloatKind) (i : Int) : fnan k (k.nearest i) = false := write_num k.format (d := .number (i < 0) i.natAbs 0) rfl
/-- The address k cells behind a. -/
def adr (a : Option Addr) (k : Nat) : Addr :=
  match a with
  | some p => ⟨p.block, p.off + k, none⟩
  | none => ⟨0, k, none⟩
theorem adr_add {p : Addr} (hp : p.spot = none) (k : Nat) : p.add k = adr (some p) k := by
  unfold Addr.add adr
  split
  · rename_i h; subst h; cases p; simp at hp ⊢; exact hp
  · rfl
theorem adr_adr (a : Option Addr) (k m : Nat) : (adr a k).add m = adr a (k + m) := by
  unfold adr Addr.add
  cases a <;> (split <;> (try rename_i h; subst h) <;> simp [Nat.add_assoc])
theorem info_size {t : TypeId} {z : Nat} (h : (P.info? t).map (·.size) = some z) (w : World) : (sizeOf t).run P w = .ok z w := by
  obtain ⟨i, hi, rfl⟩ := Option.map_eq_some_iff.1 h
  simp [sizeOf, typeInfo, hi, program, Sem.run]
theorem Cl.cell {w : World} {a : Option Addr} {us : List Value} (h : Cl w a us) {k : Nat} {u : Value} (hk : us[k]? = some u) : ∃ v, w.cell? (adr a k) = some v ∧ cn v = u := by
  rcases h with h | ⟨p, rfl, hsp, h⟩
  · rw [h] at hk; simp at hk
  · exact h k u hk
def flatB (P : Program) (t : TypeId) : Bool := match P.underlying t with | some (.struct _) => false | some (.array ..) => false | some _ => true | none => false
theorem run_isAgg_flat {t : TypeId} (h : flatB P t = true) (w : World) : (isAgg t).run P w = .ok false w := by
  unfold flatB at h
  cases hu : P.underlying t with
  | none => rw [hu] at h; cases h
  | some d => rw [hu] at h; cases d <;> simp [isAgg, run_underlying hu] at h ⊢
theorem aggB {t : TypeId} {fs : Array Field} (h : P.underlying t = some (.struct fs)) (w : World) : (isAgg t).run P w = .ok true w := by
  simp [isAgg, run_underlying h]
def scal : Value → Bool
  | .agg _ => false
  | .tuple _ => false
  | _ => true
theorem scal_cn {v u : Value} (h : cn v = u) (hs : scal u = true) : cn0 v = u ∧ scal v = true := by
  subst h
  cases v <;> simp [cn, cn1, cn0, scal] at hs ⊢
theorem Cl.cellsN {w : World} {a : Option Addr} {us : List Value} (h : Cl w a us) : ∀ (cs : List Value) (k : Nat), (∀ j u, cs[j]? = some u → us[k + j]? = some u) →
    ∃ vs : List Value, vs.length = cs.length ∧ (∀ j v, vs[j]? = some v → w.cell? (adr a (k + j)) = some v) ∧ vs.map cn = cs
  | [], _, _ => ⟨[], rfl, by simp, rfl⟩
  | c :: cs, k, hk => by
    obtain ⟨v, hv, hu⟩ := h.cell (hk 0 c rfl)
    obtain ⟨vs, h1, h2, h3⟩ := Cl.cellsN h cs (k + 1) (fun j u hj => by have := hk (j + 1) u (by simpa using hj); rwa [show k + 1 + j = k + (j + 1) by omega])
    refine ⟨v :: vs, by simp [h1], fun j v' hj => ?_, by simp [hu, h3]⟩
    cases j with
    | zero => simp at hj; subst hj; exact hv
    | succ j => have := h2 j v' (by simpa using hj); rwa [show k + (j + 1) = k + 1 + j by omega]
theorem map_cn0_of {vs cs : List Value} (h : vs.map cn = cs) (hs : cs.all scal = true) : vs.map cn0 = cs ∧ vs.all scal = true := by
  induction vs generalizing cs with
  | nil => subst h; exact ⟨rfl, rfl⟩
  | cons v vs ih =>
    subst h
    simp only [List.map_cons, List.all_cons, Bool.and_eq_true] at hs
    obtain ⟨h1, h2⟩ := scal_cn (v := v) rfl hs.1
    obtain ⟨h3, h4⟩ := ih rfl hs.2
    exact ⟨by simp only [List.map_cons, h1, h3], by simp [h2, h4]⟩
theorem run_loadCells_adr {w : World} {a : Option Addr} {k : Nat} (vs : List Value) (h : ∀ j v, vs[j]? = some v → w.cell? (adr a (k + j)) = some v) : (loadCells (adr a k) vs.length).run P w = .ok vs.toArray w :=
  run_loadCells_list w (adr a k) vs (fun j v hj => by rw [adr_adr]; exact h j v hj)
/-- e0 among O, replaced by what f makes -/
inductive UpdF {X : Type} : List Ent → Ent → (X → Ent) → (X → List Ent) → Prop
  | here {e0 : Ent} {O : List Ent} {f : X → Ent} : UpdF (e0 :: O) e0 f (fun x => f x :: O)
  | there {e0 g : Ent} {O : List Ent} {f : X → Ent} {O' : X → List Ent} : UpdF O e0 f O' → UpdF (g :: O) e0 f (fun x => g :: O' x)
  | thereS {e0 : Ent} {S O : List Ent} {f : X → Ent} {O' : X → List Ent} : UpdF O e0 f O' → UpdF (S ++ O) e0 f (fun x => S ++ O' x)
theorem UpdF.parts {X : Type} {e0 : Ent} {f : X → Ent} {O' : X → List Ent} (h : UpdF O e0 f O') : ∃ A B, O = A ++ e0 :: B ∧ ∀ x, O' x = A ++ f x :: B := by
  induction h with
  | here => exact ⟨[], _, rfl, fun _ => rfl⟩
  | there _ ih => obtain ⟨A, B, rfl, h⟩ := ih; exact ⟨_ :: A, B, rfl, fun x => congrArg (_ :: ·) (h x)⟩
  | thereS _ ih => rename_i S _ _ _ _; obtain ⟨A, B, rfl, h⟩ := ih; exact ⟨S ++ A, B, by simp, fun x => by simp [h]⟩
/-- One block has turned. -/
structure Turns (w : World) (b : Nat) (w' : World) : Prop where
  os : w'.os = w.os
  tape : w'.tape = w.tape
  output : w'.output = w.output
  size : w.heap.size ≤ w'.heap.size
  block : ∀ k, k < w.heap.size → k ≠ b → w'.heap[k]? = w.heap[k]?
theorem Turns.trans {w w1 w2 : World} {b : Nat} (h : Turns w b w1) (k : Turns w1 b w2) : Turns w b w2 :=
  ⟨k.os.trans h.os, k.tape.trans h.tape, k.output.trans h.output, Nat.le_trans h.size k.size, fun i hi hb => (k.block i (Nat.lt_of_lt_of_le hi h.size) hb).trans (h.block i hi hb)⟩
theorem Turns.setCell (w : World) (a : Addr) (v : Value) : Turns w a.block (w.setCell a v) :=
  ⟨rfl, rfl, rfl, by simp, fun k _ hk => Below.heap_setCell _ _ _ _ hk⟩
theorem Turns.of_below {w w' : World} (h : Below w.heap.size w w') (b : Nat) : Turns w b w' := ⟨h.os, h.tape, h.output, h.size, fun k hk _ => h.block k hk⟩
theorem apart_symm {e f : Ent} (h : e.apart f) : f.apart e := fun hc hc' p q hp hq => (h hc' hc q p hq hp).symm
theorem Hp.mid {A B : List Ent} {e : Ent} {w : World} (h : Hp w0 (A ++ e :: B) w) : (∀ f ∈ A ++ B, f.at w0.heap.size w) ∧ e.at w0.heap.size w ∧ (A ++ B).Pairwise Ent.apart ∧ ∀ f ∈ A ++ B, e.apart f := by
  have hp := h.apart
  rw [List.pairwise_append, List.pairwise_cons] at hp
  obtain ⟨h1, ⟨h2, h3⟩, h4⟩ := hp
  refine ⟨fun f hf => h.ents f ?_, h.ents e (by simp), ?_, fun f hf => ?_⟩
  · rcases List.mem_append.1 hf with hf | hf
    · exact List.mem_append.2 (.inl hf)
    · exact List.mem_append.2 (.inr (List.mem_cons_of_mem _ hf))
  · exact List.pairwise_append.2 ⟨h1, h3, fun a ha b hb => h4 a ha b (List.mem_cons_of_mem _ hb)⟩
  · rcases List.mem_append.1 hf with hf | hf
    · exact apart_symm (h4 f hf e List.mem_cons_self)
    · exact h2 f hf
theorem Hp.of_mid {A B : List Ent} {e : Ent} {w : World} (hb : Below w0.heap.size w0 w) (h1 : ∀ f ∈ A ++ B, f.at w0.heap.size w) (h2 : e.at w0.heap.size w) (h3 : (A ++ B).Pairwise Ent.apart) (h4 : ∀ f ∈ A ++ B, e.apart f) : Hp w0 (A ++ e :: B) w := by
  refine ⟨hb, fun f hf => ?_, ?_⟩
  · rcases List.mem_append.1 hf with hf | hf
    · exact h1 f (List.mem_append.2 (.inl hf))
    · rcases List.mem_cons.1 hf with rfl | hf
      · exact h2
      · exact h1 f (List.mem_append.2 (.inr hf))
  · rw [List.pairwise_append] at h3 ⊢
    refine ⟨h3.1, List.pairwise_cons.2 ⟨fun f hf => h4 f (List.mem_append.2 (.inr hf)), h3.2.1⟩, fun a ha b hb => ?_⟩
    rcases List.mem_cons.1 hb with rfl | hb
    · exact apart_symm (h4 a (List.mem_append.2 (.inl ha)))
    · exact h3.2.2 a ha b hb
theorem Below.of_turns {w w' : World} {b : Nat} (hb : Below w0.heap.size w0 w) (ht : Turns w b w') (hge : w0.heap.size ≤ b) : Below w0.heap.size w0 w' :=
  ⟨ht.os.trans hb.os, ht.tape.trans hb.tape, ht.output.trans hb.output, Nat.le_trans hb.size ht.size, fun k hk => (ht.block k (Nat.lt_of_lt_of_le hk hb.size) (by omega)).trans (hb.block k hk)⟩
theorem Ent.at.of_turns {Bs : Nat} {w w' : World} {f : Ent} {b : Nat} (h : f.at Bs w) (ht : Turns w b w') (hne : f.cap ≠ 0 → ∀ p, f.a = some p → p.block ≠ b) : f.at Bs w' := by
  by_cases hc : f.cap = 0
  · rcases h with h | ⟨b', c, h1, h2, h3, h4, h5, h6⟩
    · exact .inl h
    · exact .inl ⟨List.eq_nil_of_length_eq_zero (by omega), hc⟩
  · rcases h with h | ⟨b', c, h1, h2, h3, h4⟩
    · exact .inl h
    · exact .inr ⟨b', c, h1, h2, h3.same (ht.block b' h3.lt (hne hc _ h1)), h4⟩
/-- The block of e has turned (or e has moved to a new one): e' stands in its place. -/
theorem Hp.turn {A B : List Ent} {e e' : Ent} {w w' : World} {b : Nat} (h : Hp w0 (A ++ e :: B) w) (ha : e.cap ≠ 0 → ∃ p, e.a = some p ∧ p.block = b) (hge : w0.heap.size ≤ b) (hc : e.cap = 0 → w.heap.size ≤ b) (ht : Turns w b w') (he : e'.at w0.heap.size w')
    (hw : e'.cap ≠ 0 → ∀ p, e'.a = some p → p.block = b ∨ w.heap.size ≤ p.block) : Hp w0 (A ++ e' :: B) w' := by
  obtain ⟨h1, h2, h3, h4⟩ := h.mid
  have hne : ∀ f ∈ A ++ B, f.cap ≠ 0 → ∀ q, f.a = some q → q.block ≠ b := fun f hf hcf q hq => by
    by_cases hce : e.cap = 0
    · have := ((h1 f hf).block hcf hq).2
      have := hc hce
      omega
    · obtain ⟨p, hp, hpb⟩ := ha hce
      have := h4 f hf hce hcf p q hp hq
      omega
  refine Hp.of_mid (Below.of_turns h.below ht hge) (fun f hf => (h1 f hf).of_turns ht (hne f hf)) he h3 fun f hf hce hcf p q hp hq => ?_
  rcases hw hce p hp with hpb | hpb
  · have := hne f hf hcf q hq; omega
  · have := ((h1 f hf).block hcf hq).2; omega
def setAt (us : List Value) : Nat → List Value → List Value
  | _, [] => us
  | k, c :: cs => setAt (us.set k c) (k + 1) cs
theorem setAt_nth (us : List Value) : ∀ (cs : List Value) (k i : Nat), k + cs.length ≤ us.length → (setAt us k cs)[i]? = if k ≤ i ∧ i < k + cs.length then cs[i - k]? else us[i]?
  | [], k, i, _ => by rw [setAt, if_neg (by simp only [List.length_nil]; omega)]
  | c :: cs, k, i, h => by
    simp only [List.length_cons] at h
    rw [setAt, setAt_nth (us.set k c) cs (k + 1) i (by simp only [List.length_set]; omega)]
    simp only [List.length_cons]
    by_cases h1 : k + 1 ≤ i ∧ i < k + 1 + cs.length
    · rw [if_pos h1, if_pos (by omega), show i - k = (i - (k + 1)) + 1 by omega, List.getElem?_cons_succ]
    · rw [if_neg h1]
      by_cases h2 : i = k
      · subst h2
        rw [if_pos (by omega), Nat.sub_self, List.getElem?_cons_zero, List.getElem?_set_self (by omega)]
      · rw [if_neg (by omega), List.getElem?_set_ne (by omega)]
theorem setAt_length (us : List Value) (k : Nat) (cs : List Value) : (setAt us k cs).length = us.length := by
  induction cs generalizing us k with
  | nil => rfl
  | cons c cs ih => rw [setAt, ih, List.length_set]
theorem run_store_scal {w : World} {a : Addr} {v v0 : Value} (hs : scal v = true) (hv : w.cell? a = some v0) (hf : w.frozen? a = false) : (store a v).run P w = .ok () (w.setCell a v) := by
  cases v <;> simp [scal] at hs <;> simp [store, Sem.run, hv, hf]
/-- A row of cells is written into a block that is known. -/
theorem run_storeCells_ent {Bs : Nat} : ∀ (vs : List Value) (us : List Value) (i k : Nat) (w : World) (a : Option Addr) (cap : Nat) (ty : TypeId), vs.all scal = true → k + i + vs.length ≤ us.length → Ent.at Bs w ⟨a, us, cap, ty⟩ →
    ∃ b w', (storeCells (adr a k) vs i).run P w = .ok () w' ∧ (vs ≠ [] → a = some ⟨b, 0, none⟩) ∧ Turns w b w' ∧ Ent.at Bs w' ⟨a, setAt us (k + i) (vs.map cn), cap, ty⟩
  | [], us, i, k, w, a, cap, ty, _, _, he => by
    rcases a with _ | ⟨b, o', s⟩
    · exact ⟨0, w, by simp [storeCells], by simp, Turns.of_below (Below.refl _ _) _, he⟩
    · exact ⟨b, w, by simp [storeCells], by simp, Turns.of_below (Below.refl _ _) _, he⟩
  | v :: vs, us, i, k, w, a, cap, ty, hs, hl, he => by
    simp only [List.all_cons, Bool.and_eq_true] at hs
    simp only [List.length_cons] at hl
    rcases he with he | ⟨b, c, h1, h2, h3, h4, h5, h6⟩
    · have := he.1
      change us = [] at this
      subst this
      simp at hl
    · simp only at h1 h3 h4 h5 h6
      subst h1
      have hk : k + i < us.length := by omega
      have hadr : adr (some ⟨b, 0, none⟩) (k + i) = ⟨b, k + i, none⟩ := by simp [adr]
      obtain ⟨v0, hv0, _⟩ := h6 (k + i) us[k + i] (List.getElem?_eq_getElem hk)
      have hcell : w.cell? (adr (some ⟨b, 0, none⟩) (k + i)) = some v0 := by rw [hadr, h3.cell]; exact hv0
      have hfr : w.frozen? (adr (some ⟨b, 0, none⟩) (k + i)) = false := by rw [hadr]; exact h3.melt (Array.getElem?_eq_some_iff.1 hv0).1
      have hst := run_store_scal (P := P) (w := w) hs.1 hcell hfr
      have hw1 : Frz (w.setCell (adr (some ⟨b, 0, none⟩) (k + i)) v) b (c.setIfInBounds (k + i) v) ty := by
        rw [hadr]; exact h3.set _ _
      have he1 : Ent.at Bs (w.setCell (adr (some ⟨b, 0, none⟩) (k + i)) v) ⟨some ⟨b, 0, none⟩, us.set (k + i) (cn v), cap, ty⟩ := by
        refine .inr ⟨b, _, rfl, h2, hw1, by simpa using h4, by simpa using h5, fun j u hj => ?_⟩
        by_cases hjk : k + i = j
        · subst hjk
          rw [List.getElem?_set_self hk] at hj
          cases hj
          have hlt : k + i < c.size := (Array.getElem?_eq_some_iff.1 hv0).1
          exact ⟨v, by rw [Array.getElem?_setIfInBounds, if_pos rfl, if_pos hlt], rfl⟩
        · rw [List.getElem?_set_ne hjk] at hj
          obtain ⟨v', hv', hu'⟩ := h6 j u hj
          exact ⟨v', by rw [Array.getElem?_setIfInBounds_ne hjk]; exact hv', hu'⟩
      obtain ⟨b', w', g1, g2, g3, g4⟩ := run_storeCells_ent vs (us.set (k + i) (cn v)) (i + 1) k _ (some ⟨b, 0, none⟩) cap ty hs.2 (by simp only [List.length_set]; omega) he1
      have hbb : vs ≠ [] → b' = b := fun hn => by have := g2 hn; injection this with h; injection h with h; exact h.symm
      refine ⟨b, w', ?_, fun _ => rfl, ?_, ?_⟩
      · simp only [storeCells, Sem.run_bind, adr_adr, hst, Result.andThen_ok]
        exact g1
      · refine Turns.trans (Turns.setCell w (adr (some ⟨b, 0, none⟩) (k + i)) v) ?_
        rw [hadr]
        cases vs with
        | nil =>
          have g1' : w.setCell (adr (some ⟨b, 0, none⟩) (k + i)) v = w' := by simpa [storeCells] using g1
          rw [hadr] at g1'
          subst g1'; exact Turns.of_below (Below.refl _ _) _
        | cons _ _ => rw [hbb (by simp), hadr] at g3; exact g3
      · simp only [List.map_cons, setAt]
        rw [show k + i + 1 = k + (i + 1) by omega]
        exact g4
theorem Ent.at.addr {Bs : Nat} {w : World} {e : Ent} (h : e.at Bs w) (hc : e.cap ≠ 0) : ∃ b, e.a = some ⟨b, 0, none⟩ ∧ Bs ≤ b := by
  rcases h with h | ⟨b, c, h1, h2, _⟩
  · exact absurd h.2 hc
  · exact ⟨b, h1, h2⟩
theorem below_alloc (w : World) (c : Array Value) (e : TypeId) : Below w.heap.size w (w.alloc (.cells c e)) := (Below.refl _ w).alloc (Nat.le_refl _) _
theorem heap_alloc_at (w : World) (c : Array Value) (e : TypeId) : Frz (w.alloc (.cells c e)) w.heap.size c e := by
  refine ⟨(0, 0), ?_, .inl rfl⟩
  show (w.heap.push _)[w.heap.size]? = _
  simp
theorem ent_new (w : World) (vs us : List Value) (e : TypeId) (h : vs.map cn = us) : Ent.at w.heap.size (w.alloc (.cells vs.toArray e)) ⟨some ⟨w.heap.size, 0, none⟩, us, us.length, e⟩ := by
  subst h
  refine .inr ⟨w.heap.size, vs.toArray, rfl, Nat.le_refl _, heap_alloc_at w _ e, by simp, by simp, fun i u hu => ?_⟩
  simp only [List.getElem?_map, Option.map_eq_some_iff] at hu
  simpa using hu
theorem run_newRow (w : World) (e : TypeId) (c : Array Value) : (newRow e c).run P w = .ok ⟨w.heap.size, 0, none⟩ (w.alloc (.cells c e)) := by
  rfl
/-- The cells of a canonical value. -/
theorem cells_cn {v u : Value} {cs : List Value} (e2 : cn v = u) (hu : (scal u = true ∧ cs = [u]) ∨ (u = .agg cs.toArray ∧ cs.all scal = true)) : ∃ vs : List Value, v.cells = vs.toArray ∧ vs.map cn = cs ∧ vs.all scal = true := by
  rcases hu with ⟨hs, rfl⟩ | ⟨rfl, hs⟩
  · obtain ⟨h1, h2⟩ := scal_cn e2 hs
    refine ⟨[v], ?_, by simp [e2], by simp [h2]⟩
    cases v <;> simp [scal, Value.cells] at h2 ⊢
  · obtain ⟨ws, rfl, h2⟩ := cn_agg e2
    have h3 : ws.toList.map cn0 = cs := by have := congrArg Array.toList h2; simpa using this
    subst h3
    refine ⟨ws.toList, by simp [Value.cells], ?_, ?_⟩
    · apply List.map_congr_left
      intro v hv
      have hsv : scal (cn0 v) = true := List.all_eq_true.1 hs _ (List.mem_map_of_mem hv)
      cases v <;> simp [cn0, scal] at hsv <;> rfl
    · rw [List.all_eq_true] at hs ⊢
      intro v hv
      have hsv : scal (cn0 v) = true := hs _ (List.mem_map_of_mem hv)
      cases v <;> simp [cn0, scal] at hsv ⊢
theorem info_zero {t : TypeId} {z : Value} (h : (P.info? t).bind (·.zero) = some z) (w : World) : (zeroValue t).run P w = .ok z w := by
  obtain ⟨i, hi, h⟩ := Option.bind_eq_some_iff.1 h
  simp [zeroValue, typeInfo, hi, h, program, Sem.run]
end
end Go.Proofs.Ytgeflnjjppgooaa

namespace Go.Proofs.Ytgeflnjjppgooaa
open Go.RowKit
section
variable {P : Program} {n : Nat} {w0 : World} {O : List Ent} {E : Env} {Q : Exit → Act → World → Prop} {ops : Array Oper} {o : Oper} {rest : List Oper} {d : Nat}
/-- What is known of a function that is called: it has a body, and is not the one that the model treats apart. -/
def Known (P : Program) (f : FuncId) : Prop := ∃ fn, P.funcs[f]? = some fn ∧ fn.body.isSome = true ∧ (fn.name == "runtime.NumGoroutine") = false
theorem Known.mk' {f : FuncId} {fn : Func} (h : P.funcs[f]? = some fn) (h1 : (fn.body.isSome && !(fn.name == "runtime.NumGoroutine")) = true) : Known P f := by
  simp only [Bool.and_eq_true, Bool.not_eq_true'] at h1
  exact ⟨fn, h, h1.1, h1.2⟩
theorem run_callFunc {f : FuncId} (h : Known P f) (args : Array Value) (w : World) : (callFunc f args).run P w = .ok (.enter f args) w := by
  obtain ⟨fn, h1, h2, h3⟩ := h
  obtain ⟨c, hb⟩ := Option.isSome_iff_exists.1 h2
  have h3' : ¬ fn.name = "runtime.NumGoroutine" := by simpa using h3
  simp [callFunc, program, Sem.run, h1, h3', hb]
/-- The operands read as these. -/
def Opds (E : Env) : List Operand → List Value → Prop
  | [], us => us = []
  | x :: xs, us => ∃ u r, us = u :: r ∧ E.opd x = some u ∧ Opds E xs r
theorem Opds.nil : Opds E [] [] := rfl
theorem Opds.cons {x : Operand} {xs : List Operand} {u : Value} {us : List Value} (h : E.opd x = some u) (hs : Opds E xs us) : Opds E (x :: xs) (u :: us) := ⟨u, us, rfl, h, hs⟩
theorem Opds.map {xs : List Operand} {us : List Value} (h : Opds E xs us) {op : Op} {ρ : Operand → Value} (hE : Ev E op ρ) (hm : ∀ x ∈ xs, x ∈ op.operands) : (xs.map ρ).map cn = us := by
  induction xs generalizing us with
  | nil => exact h.symm
  | cons x xs ih =>
    obtain ⟨u, r, rfl, h1, h2⟩ := h
    simp only [List.map_cons, hE.get (hm x List.mem_cons_self) h1, ih h2 (fun y hy => hm y (List.mem_cons_of_mem _ hy))]
/-- The value of the callee, in a call: the function f with captured variables cs. -/
theorem run_call {callee : Operand} {args : Array Operand} {ts : Array TypeId} {f : FuncId} {cs : Array Value} (ho : o.op = .call ⟨.value callee, args, ts⟩) (hk : Known P f) (hc : E.opd callee = some (.func (.func f) #[] cs)) {ρ : Operand → Value} {w : World} (hE : Ev E o.op ρ) :
    (execOp ρ o).run P w = .ok (.enter f (args.map ρ ++ cs)) w := by
  have h1 := cn_func (hE.get (x := callee) (by simp [ho, Op.operands, Call.operands]) hc)
  simp [execOp, ho, resolve, h1, Deferred.ofValue, invoke, run_callFunc hk]
theorem args_map {callee : Operand} {args : Array Operand} {ts : Array TypeId} {us : List Value} {cs : Array Value} (ho : o.op = .call ⟨.value callee, args, ts⟩) (hx : Opds E args.toList us) {ρ : Operand → Value} (hE : Ev E o.op ρ) :
    (args.map ρ ++ cs).toList.map cn = us ++ cs.toList.map cn := by
  have := hx.map hE (fun x hx => by simp [ho, Op.operands, Call.operands]; exact .inr (by simpa using hx))
  simp [← this]
/-- A call of a function that is named. -/
theorem args_map' {callee : Operand} {args : Array Operand} {ts : Array TypeId} {us : List Value} (ho : o.op = .call ⟨.value callee, args, ts⟩) (hx : Opds E args.toList us) {ρ : Operand → Value} (hE : Ev E o.op ρ) :
    (args.map ρ ++ #[]).toList.map cn = us := by
  have := hx.map hE (fun x hx => by simp [ho, Op.operands, Call.operands]; exact .inr (by simpa using hx))
  simp [← this]
/-- Entries that are taken out of what is owned: one, or a row of them. -/
inductive Rem : List Ent → List Ent → List Ent → Prop
  | here {e : Ent} {O : List Ent} : Rem (e :: O) [e] O
  | hereS {S O : List Ent} : Rem (S ++ O) S O
  | there {e : Ent} {O S O' : List Ent} : Rem O S O' → Rem (e :: O) S (e :: O')
  | thereS {T O S O' : List Ent} : Rem O S O' → Rem (T ++ O) S (T ++ O')
inductive Pick : List Ent → List Ent → List Ent → Prop
  | nil {O : List Ent} : Pick O [] O
  | take {O S O1 M F : List Ent} : Rem O S O1 → Pick O1 M F → Pick O (S ++ M) F
theorem Rem.perm {O S O' : List Ent} (h : Rem O S O') : O.Perm (S ++ O') := by
  induction h with
  | here => exact List.Perm.refl _
  | hereS => exact List.Perm.refl _
  | there _ ih => exact (List.Perm.cons _ ih).trans List.perm_middle.symm
  | thereS _ ih =>
    refine (List.Perm.append_left _ ih).trans ?_
    rw [← List.append_assoc, ← List.append_assoc]
    exact List.Perm.append_right _ List.perm_append_comm
theorem Pick.perm {O M F : List Ent} (h : Pick O M F) : O.Perm (F ++ M) := by
  induction h with
  | nil => simp
  | take h1 _ ih =>
    refine h1.perm.trans ((List.Perm.append_left _ ih).trans ?_)
    rw [← List.append_assoc]
    refine (List.Perm.append_right _ List.perm_append_comm).trans ?_
    rw [List.append_assoc]
theorem Hp.perm' {O' : List Ent} {w : World} (h : Hp w0 O w) (hp : O.Perm O') : Hp w0 O' w :=
  ⟨h.below, fun e he => h.ents e (hp.mem_iff.2 he), h.apart.perm hp (fun h => apart_symm h)⟩
def argsFrom : Nat → List Value → Env
  | _, [] => []
  | i, u :: us => (i, u) :: argsFrom (i + 1) us
theorem argsFrom_get : ∀ (us : List Value) (i t : Nat) (u : Value), (argsFrom i us).get t = some u → i ≤ t ∧ us[t - i]? = some u
  | [], i, t, u, h => by simp [argsFrom, Env.get] at h
  | v :: us, i, t, u, h => by
    simp only [argsFrom, Env.get] at h
    cases hb : Nat.beq i t with
    | true =>
      have e : i = t := Nat.eq_of_beq_eq_true hb
      subst e
      rw [hb] at h
      exact ⟨Nat.le_refl _, by simpa using h⟩
    | false =>
      rw [hb] at h
      obtain ⟨h1, h2⟩ := argsFrom_get us (i + 1) t u h
      refine ⟨by omega, ?_⟩
      rw [show t - i = t - (i + 1) + 1 by omega]
      simpa using h2
theorem models_args {vs : Array Value} {us : List Value} (h : vs.toList.map cn = us) (hn : us.length ≤ n) : Models n (argsFrom 0 us) { tmps := vs ++ Array.replicate (n - vs.size) undef, defers := [] } := by
  have hl : vs.size = us.length := by rw [← h]; simp
  refine ⟨by simp; omega, rfl, fun t u ht => ?_⟩
  obtain ⟨_, h2⟩ := argsFrom_get us 0 t u ht
  subst h
  simp only [Nat.sub_zero, List.getElem?_map, Option.map_eq_some_iff] at h2
  obtain ⟨v, hv, hu⟩ := h2
  have hlt : t < vs.size := by
    have := (List.getElem?_eq_some_iff.1 hv).1
    simpa using this
  refine ⟨v, ?_, hu⟩
  rw [Array.getElem?_append_left hlt]
  simpa using hv
theorem cn_of_ne {v u : Value} (h : cn v = u) (hn : ∀ z, u ≠ .tuple z) : cn1 v = u := by
  cases v <;> simp [cn] at h ⊢ <;> try exact h
  exact absurd h.symm (hn _)
theorem results_tmp3 {fn : Func} {t u s : Tmp} (h : fn.results = #[.tmp t, .tmp u, .tmp s]) (tmps : Array Value) (P : Program) (w : World) :
    (results fn tmps).run P w = .ok (.tuple #[tmps.getD t undef, tmps.getD u undef, tmps.getD s undef]) w := by
  simp [results, h]
/-- parts that are laid into cells -/
def fillC (places : List (Nat × Nat)) : List (Nat × Value) → List Value → Option (List Value)
  | [], cells => some cells
  | (i, v) :: r, cells =>
    match places[i]? with
    | none => none
    | some (off, size) =>
      if v.cells.size ≠ size ∨ off + v.cells.size > cells.length then none
      else fillC places r (setAt cells off v.cells.toList)
theorem setAt_map (f : Value → Value) (us : List Value) (k : Nat) (cs : List Value) : (setAt us k cs).map f = setAt (us.map f) k (cs.map f) := by
  induction cs generalizing us k with
  | nil => rfl
  | cons c cs ih => simp only [setAt, List.map_cons, ih, List.map_set]
theorem foldl_setAt (cs : List Value) (off : Nat) : ∀ (j : Nat) (cells : Array Value), ((cs.zipIdx j).foldl (fun (cs : Array Value) (x : Value × Nat) => cs.setIfInBounds (off + x.2) x.1) cells).toList = setAt cells.toList (off + j) cs := by
  induction cs with
  | nil => intro j cells; rfl
  | cons c cs ih =>
    intro j cells
    simp only [List.zipIdx_cons, List.foldl_cons, setAt]
    rw [ih (j + 1)]
    simp [Nat.add_assoc]
theorem fill_fillC (places : Array (Nat × Nat)) : ∀ (parts : List (Nat × Value)) (cells : Array Value), (Instr.fill (places[·]?) cells parts).map Array.toList = fillC places.toList parts cells.toList
  | [], cells => rfl
  | (i, v) :: r, cells => by
    simp only [Instr.fill, fillC, Array.getElem?_toList]
    cases places[i]? with
    | none => rfl
    | some p =>
      obtain ⟨off, size⟩ := p
      dsimp only
      by_cases h : v.cells.size ≠ size ∨ off + v.cells.size > cells.size
      · rw [if_pos (by simpa using h), if_pos (by simpa using h)]; rfl
      · rw [if_neg (by simpa using h), if_neg (by simpa using h), fill_fillC places r]
        congr 1
        have := foldl_setAt v.cells.toList off 0 cells
        simp only [Nat.add_zero] at this
        rw [← this]
        congr 1
        rw [← Array.foldl_toList, Array.toList_zipIdx]
theorem cells_cn1 {v : Value} (h : ∀ z, v ≠ .tuple z) : (cn v).cells.toList = v.cells.toList.map cn0 := by
  cases v <;> simp [cn, cn1, cn0, Value.cells] at h ⊢
theorem fillC_cn (places : List (Nat × Nat)) : ∀ (parts : List (Nat × Value)) (cells : List Value), (∀ p ∈ parts, ∀ z, p.2 ≠ .tuple z) →
    fillC places (parts.map fun p => (p.1, cn p.2)) (cells.map cn0) = (fillC places parts cells).map (List.map cn0)
  | [], cells, _ => rfl
  | (i, v) :: r, cells, h => by
    have hv := cells_cn1 (h (i, v) List.mem_cons_self)
    have hs : (cn v).cells.size = v.cells.size := by have := congrArg List.length hv; simpa using this
    simp only [List.map_cons, fillC]
    cases places[i]? with
    | none => rfl
    | some p =>
      obtain ⟨off, size⟩ := p
      dsimp only
      rw [hs, List.length_map]
      split
      · rfl
      · rw [hv, ← setAt_map]
        exact fillC_cn places r _ (fun p hp => h p (List.mem_cons_of_mem _ hp))
/-- What is known of a struct type: its zero cells, and where its fields lie. -/
def Lay (P : Program) (t : TypeId) (zero : List Value) (places : List (Nat × Nat)) : Prop :=
  ∃ fs : Array Field, P.underlying t = some (.struct fs) ∧ (P.info? t).bind (·.zero) = some (.agg zero.toArray) ∧ (fs.toList.mapM fun f => (P.info? f.type).map fun i => (f.offset, i.size)) = some places
theorem Lay.mk' {t : TypeId} {zero : List Value} {places : List (Nat × Nat)} (h : (match P.underlying t with | some (.struct fs) => (fs.toList.mapM fun f => (P.info? f.type).map fun i => (f.offset, i.size)) | _ => none) = some places) (hz : (P.info? t).bind (·.zero) = some (.agg zero.toArray)) : Lay P t zero places := by
  cases hu : P.underlying t with
  | none => rw [hu] at h; cases h
  | some d =>
    rw [hu] at h
    cases d <;> simp only at h <;> first | (cases h; done) | exact ⟨_, hu, hz, h⟩
theorem run_places (l : List Field) : ∀ places, (l.mapM fun f => (P.info? f.type).map fun i => (f.offset, i.size)) = some places → ∀ w : World,
    (l.mapM (m := Sem) fun f => do pure (f.offset, ← sizeOf f.type)).run P w = .ok places w := by
  induction l with
  | nil => intro places h w; simp at h; subst h; rfl
  | cons f l ih =>
    intro places h w
    simp only [List.mapM_cons, Option.bind_eq_bind, Option.bind_eq_some_iff, Option.map_eq_some_iff] at h
    obtain ⟨p, ⟨i, hi, rfl⟩, ps, hps, h⟩ := h
    cases h
    have := ih ps hps w
    simp [List.mapM_cons, sizeOf, typeInfo, program, Sem.run, hi] at this ⊢
    simp [this]
theorem run_build {t : TypeId} {zero : List Value} {places : List (Nat × Nat)} (h : Lay P t zero places) (parts : Array (Nat × Value)) {cells : List Value} (hc : fillC places parts.toList zero = some cells) (w : World) : (Instr.build t parts).run P w = .ok (.agg cells.toArray) w := by
  obtain ⟨fs, h1, h2, h3⟩ := h
  have hp := run_places (P := P) fs.toList places h3 w
  have hp' : (fs.mapM (m := Sem) fun f => do pure (f.offset, ← sizeOf f.type)).run P w = .ok places.toArray w := by
    rw [Array.mapM_eq_mapM_toList]
    rw [Sem.run_map]
    rw [hp]; rfl
  have hf := fill_fillC places.toArray parts.toList zero.toArray
  rw [hc] at hf
  obtain ⟨cs, hcs, rfl⟩ := Option.map_eq_some_iff.1 hf
  simp only [Instr.build, Sem.run_bind, info_zero h2, Result.andThen_ok, run_underlying h1, hp', Value.cells, hcs, Sem.run_pure]
end
end Go.Proofs.Ytgeflnjjppgooaa

namespace Go.Proofs.Ytgeflnjjppgooaa
open Go.RowKit
set_option linter.unusedSimpArgs false
section
variable {P : Program} {n : Nat} {w0 : World} {O : List Ent} {E : Env} {o : Oper}
/-- What is known of an element type: its zero cells and its bytes. -/
def Elt (P : Program) (e : TypeId) (zero : List Value) (bytes : Nat) : Prop :=
  ∃ i z, P.info? e = some i ∧ i.zero = some z ∧ z.cells.toList = zero ∧ i.size = zero.length ∧ i.bytes = bytes ∧ zero.length ≠ 0
theorem Elt.mk' {e : TypeId} {zero : List Value} {bytes : Nat} (h : (P.info? e).map (fun i => (i.zero.map (·.cells.toList), i.size, i.bytes)) = some (some zero, zero.length, bytes)) (h0 : zero.length ≠ 0) : Elt P e zero bytes := by
  obtain ⟨i, hi, h⟩ := Option.map_eq_some_iff.1 h
  simp only [Prod.mk.injEq] at h
  obtain ⟨h1, h2, h3⟩ := h
  obtain ⟨z, hz, h1⟩ := Option.map_eq_some_iff.1 h1
  exact ⟨i, z, hi, hz, h1, h2, h3, h0⟩
theorem mul_zero_cases {a b : Nat} (h : a * b = 0) : a = 0 ∨ b = 0 := Nat.mul_eq_zero.1 h
def cycle (zero : List Value) : Nat → List Value
  | 0 => []
  | m + 1 => zero ++ cycle zero m
theorem cycle_length (zero : List Value) (m : Nat) : (cycle zero m).length = m * zero.length := by
  induction m with
  | zero => simp [cycle]
  | succ m ih => simp [cycle, ih, Nat.add_mul, Nat.add_comm]
theorem cycle_get (zero : List Value) : ∀ (m j : Nat), j < m * zero.length → (cycle zero m)[j]? = zero[j % zero.length]?
  | 0, j, h => by simp at h
  | m + 1, j, h => by
    have hz : 0 < zero.length := by rcases Nat.eq_zero_or_pos zero.length with h' | h'; · rw [h'] at h; simp at h
                                    · exact h'
    simp only [cycle]
    by_cases hj : j < zero.length
    · rw [List.getElem?_append_left hj, Nat.mod_eq_of_lt hj]
    · rw [List.getElem?_append_right (by omega), cycle_get zero m (j - zero.length) (by rw [Nat.add_mul] at h; omega), Nat.mod_eq_sub_mod (a := j) (by omega)]
theorem range_cycle (zero : Array Value) (m : Nat) (hz : 0 < zero.size) : ((Array.range (m * zero.size)).map (zero[· % zero.size]!)).toList = cycle zero.toList m := by
  apply List.ext_getElem?
  intro j
  by_cases hj : j < m * zero.size
  · have hm := Nat.mod_lt j hz
    rw [cycle_get zero.toList m j (by simpa using hj)]
    simp only [Array.toList_map, Array.toList_range, List.getElem?_map, List.getElem?_range hj, Option.map_some, Array.length_toList, Array.getElem?_toList]
    rw [Array.getElem?_eq_getElem hm, getElem!_pos zero (j % zero.size) hm]
  · rw [List.getElem?_eq_none (by simp; omega), List.getElem?_eq_none (by rw [cycle_length]; simp; omega)]
theorem cycle_map (f : Value → Value) (zero : List Value) (m : Nat) : (cycle zero m).map f = cycle (zero.map f) m := by
  induction m with
  | zero => rfl
  | succ m ih => simp [cycle, ih]
theorem fillC_row (places : List (Nat × Nat)) : ∀ (r l rest : List Value), rest.length = r.length → r.all scal = true → (∀ i, i < l.length + r.length → places[i]? = some (i, 1)) →
    fillC places ((List.range' l.length r.length).zip r) (l ++ rest) = some (l ++ r)
  | [], l, rest, h, _, _ => by
    have : rest = [] := List.eq_nil_of_length_eq_zero h
    subst this; simp [fillC]
  | u :: r, l, rest, h, hs, hp => by
    cases rest with
    | nil => simp at h
    | cons x rest =>
      simp only [List.all_cons, Bool.and_eq_true] at hs
      simp only [List.length_cons, Nat.add_right_cancel_iff] at h
      have hc : u.cells = #[u] := by cases u <;> simp [scal, Value.cells] at hs ⊢
      simp only [List.length_cons, List.range'_succ, List.zip_cons_cons, fillC, hp l.length (by simp)]
      rw [hc]
      have hset : setAt (l ++ x :: rest) l.length [u] = (l ++ [u]) ++ rest := by
        simp only [setAt]
        rw [List.set_append_right _ _ (Nat.le_refl _), Nat.sub_self, List.set_cons_zero, List.append_assoc]; rfl
      rw [if_neg (by simp), hset]
      have ih := fillC_row places r (l ++ [u]) rest h hs.2 (fun i hi => hp i (by simp at hi ⊢; omega))
      simp only [List.length_append, List.length_cons, List.length_nil, Nat.zero_add] at ih
      rw [ih]; simp
theorem ent_cells {Bs : Nat} {w : World} {a : Option Addr} {us : List Value} {cap : Nat} {ty : TypeId} (h : Ent.at Bs w ⟨a, us, cap, ty⟩) (hs : us.all scal = true) :
    (us = [] ∧ cap = 0) ∨ ∃ b c vs, a = some ⟨b, 0, none⟩ ∧ Bs ≤ b ∧ Frz w b c ty ∧ c.size = cap ∧ us.length ≤ cap ∧ c.toList.take us.length = vs ∧ vs.map cn = us ∧ vs.all scal = true := by
  rcases h with h | ⟨b, c, h1, h2, h3, h4, h5, h6⟩
  · exact .inl h
  · refine .inr ⟨b, c, _, h1, h2, h3, h4, h5, rfl, ?_, ?_⟩
    · apply List.ext_getElem?
      intro j
      simp only [List.getElem?_map, List.getElem?_take]
      by_cases hj : j < us.length
      · rw [if_pos hj]
        obtain ⟨v, hv, hu⟩ := h6 j _ (List.getElem?_eq_getElem hj)
        rw [Array.getElem?_toList, hv, List.getElem?_eq_getElem hj]
        simp [hu]
      · rw [if_neg hj, List.getElem?_eq_none (by omega)]; rfl
    · rw [List.all_eq_true]
      intro v hv
      obtain ⟨j, hj⟩ := List.getElem?_of_mem hv
      rw [List.getElem?_take] at hj
      split at hj
      · rename_i hlt
        obtain ⟨v', hv', hu'⟩ := h6 j _ (List.getElem?_eq_getElem hlt)
        rw [Array.getElem?_toList, hv'] at hj
        cases hj
        have := List.all_eq_true.1 hs _ (List.getElem_mem hlt)
        rw [← hu'] at this
        cases v <;> simp [cn, cn1, scal] at this ⊢
      · cases hj
end
end Go.Proofs.Ytgeflnjjppgooaa

namespace Go.Proofs.Ytgeflnjjppgooaa
open Go.RowKit
/-- How an operation is taken: 0 quiet; 1 it makes something new; 2 it makes something new whatever is there; 3 it turns what the call owns. -/
abbrev Kd := Nat
section
variable {P : Program} {n : Nat} {w0 : World} {O : List Ent} {E : Env} {ops : Array Oper}
/-- A new variable: what it holds. -/
def aent (P : Program) (o : Oper) (b : Nat) : Ent :=
  match o.op with
  | .alloc e => match (P.info? e).bind (·.zero) with
    | some z => ⟨some ⟨b, 0, none⟩, z.cells.toList.map cn, (z.cells.toList.map cn).length, e⟩
    | none => ⟨none, [], 0, e⟩
  | _ => ⟨none, [], 0, 0⟩
/-- A new variable is made, whatever is there. -/
def AOk (P : Program) (n : Nat) (o : Oper) : Prop := o.guard = none ∧ (∃ e z, o.op = .alloc e ∧ (P.info? e).bind (·.zero) = some z) ∧ ∃ d, o.dst = some d ∧ d < n
def aptr (b : Nat) : Value := .pointer (some (adr (some ⟨b, 0, none⟩) 0))
/-- Is the guard met, in E? -/
inductive Guard (ops : Array Oper) (E : Env) (o : Oper) : Bool → Prop
  | none : o.guard = .none → Guard ops E o true
  | some {j t : Nat} {b b' : Bool} : o.guard = .some (j, b) → (ops[j]?).bind (·.dst) = .some t → E.get t = .some (.bool b') → Guard ops E o (b' == b)
  | undef {j t : Nat} {b : Bool} : o.guard = .some (j, b) → (ops[j]?).bind (·.dst) = .some t → E.get t = .some undef → Guard ops E o false
theorem cn_undef {v : Value} (h : cn v = undef) : v = undef := by
  cases v <;> simp [cn, cn1, cn0, undef] at h ⊢
  exact h
theorem yielded_undef {a : Act} {j t : Nat} (ha : Models n E a) (hj : (ops[j]?).bind (·.dst) = some t) (hb : E.get t = some undef) : yielded ops a.tmps j = none := by
  obtain ⟨v, hv, hu⟩ := ha.get t _ hb
  have := cn_undef hu
  subst this
  simp [yielded, hj, hv, undef]
theorem Guard.wanted {o : Oper} {g : Bool} (h : Guard ops E o g) {a : Act} (ha : Models n E a) : Region.wanted o (yielded ops a.tmps) = g := by
  cases h with
  | none h => simp [Region.wanted, h]
  | some h1 h2 h3 =>
    rename_i j t b b'
    simp only [Region.wanted, h1, yielded_of ha h2 h3]
    cases b <;> cases b' <;> rfl
  | undef h1 h2 h3 => simp [Region.wanted, h1, yielded_undef ha h2 h3]
def putE (E : Env) (d : Option Nat) (u : Value) : Env := match d with | some d => (d, u) :: E | none => E
def DOk (n : Nat) (o : Oper) : Prop := ∀ d, o.dst = some d → d < n
/-- K does not look at the order of what is known. -/
def Lax (w0 : World) (K : Env → List Ent → Prop) : Prop :=
  ∀ E E' O O', (∀ t, E'.get t = E.get t) → (∀ F w, Hp w0 (F ++ O') w → Hp w0 (F ++ O) w) → K E O → K E' O'
theorem Guard.same {E' : Env} {o : Oper} {g : Bool} (h : Guard ops E o g) (hE : ∀ t, (∃ j b, o.guard = .some (j, b) ∧ (ops[j]?).bind (·.dst) = .some t) → E'.get t = E.get t) : Guard ops E' o g := by
  cases h with
  | none h => exact .none h
  | some h1 h2 h3 => exact .some h1 h2 (by rw [hE _ ⟨_, _, h1, h2⟩]; exact h3)
  | undef h1 h2 h3 => exact .undef h1 h2 (by rw [hE _ ⟨_, _, h1, h2⟩]; exact h3)
theorem opd_same {E' : Env} (h : ∀ t, E'.get t = E.get t) (x : Operand) : E'.opd x = E.opd x := by
  cases x <;> simp [Env.opd, h]
theorem get_cons_congr {E E' : Env} (h : ∀ t, E'.get t = E.get t) (d : Nat) (u : Value) : ∀ t, Env.get ((d, u) :: E') t = Env.get ((d, u) :: E) t := by
  intro t; simp only [Env.get, h]
theorem Hp.perm {O' N : List Ent} (h : ∀ F w, Hp w0 (F ++ O') w → Hp w0 (F ++ O) w) : ∀ F w, Hp w0 (F ++ (N ++ O')) w → Hp w0 (F ++ (N ++ O)) w := by
  intro F w hw
  rw [← List.append_assoc] at hw ⊢
  exact h _ w hw
theorem put_congr {E E' : Env} (h : ∀ t, E'.get t = E.get t) (d : Option Nat) (u : Value) : ∀ t, (putE E' d u).get t = (putE E d u).get t := by
  cases d with
  | none => exact h
  | some d => exact get_cons_congr h d u
theorem hp_nil {O' : List Ent} (h : ∀ F w, Hp w0 (F ++ O') w → Hp w0 (F ++ O) w) : ∀ w, Hp w0 O' w → Hp w0 O w := fun w hw => by simpa using h [] w (by simpa using hw)
theorem operand_ne {o : Oper} {d : Nat} (h : (o.looksAt ops).contains d = false) : ∀ x ∈ o.op.operands, x ≠ .tmp d := by
  intro x hx he
  subst he
  have : d ∈ o.looksAt ops := by
    unfold Oper.looksAt
    refine List.mem_append.2 (.inl (List.mem_filterMap.2 ⟨.tmp d, by simpa using hx, rfl⟩))
  simp at h
  exact h this
theorem guard_ne {o : Oper} {d : Nat} (h : (o.looksAt ops).contains d = false) : ∀ t, (∃ j b, o.guard = .some (j, b) ∧ (ops[j]?).bind (·.dst) = .some t) → t ≠ d := by
  rintro t ⟨j, b, h1, h2⟩ rfl
  have : t ∈ o.looksAt ops := by
    unfold Oper.looksAt
    refine List.mem_append.2 (.inr ?_)
    rw [h1]
    simp [h2]
  simp at h
  exact h this
theorem get_other {t d : Nat} (h : t ≠ d) (u : Value) : Env.get ((d, u) :: E) t = E.get t := by
  simp only [Env.get]
  cases hb : Nat.beq d t with
  | true => exact absurd (Nat.eq_of_beq_eq_true hb).symm h
  | false => rfl
theorem opd_other {o : Oper} {d : Nat} (h : (o.looksAt ops).contains d = false) (u : Value) : ∀ x ∈ o.op.operands, Env.opd ((d, u) :: E) x = E.opd x := by
  intro x hx
  have := operand_ne h x hx
  cases x with
  | tmp t => exact get_other (fun e => this (by rw [e])) u
  | _ => rfl
theorem guard_other {o : Oper} {d : Nat} (h : (o.looksAt ops).contains d = false) {u : Value} {g : Bool} (hg : Guard ops ((d, u) :: E) o g) : Guard ops E o g :=
  hg.same fun t ht => (get_other (guard_ne h t ht) u).symm
theorem guard_other' {o : Oper} {d : Nat} (h : (o.looksAt ops).contains d = false) {u : Value} {g : Bool} (hg : Guard ops E o g) : Guard ops ((d, u) :: E) o g :=
  hg.same fun t ht => get_other (guard_ne h t ht) u
theorem get_swap {d d' : Nat} (h : d ≠ d') (u u' : Value) : ∀ t, Env.get ((d, u) :: (d', u') :: E) t = Env.get ((d', u') :: (d, u) :: E) t := by
  intro t
  simp only [Env.get]
  cases hb : Nat.beq d t <;> cases hb' : Nat.beq d' t <;> try rfl
  exact absurd ((Nat.eq_of_beq_eq_true hb).trans (Nat.eq_of_beq_eq_true hb').symm) h
/-- p is walked before q; may q be carried out before p? -/
def swapOk (ops : Array Oper) (kp kq : Kd) (p q : Oper) : Bool :=
  (match p.dst with | some d => !(q.looksAt ops).contains d && q.dst != some d | none => true) &&
  (match q.dst with | some d => !(p.looksAt ops).contains d | none => true) &&
  ((kp == 0 && (kq == 0 || kq == 1 || kq == 2)) || kq == 2)
theorem swap_hp {N M : List Ent} (F : List Ent) (w : World) (h : Hp w0 (F ++ (N ++ (M ++ O))) w) : Hp w0 (F ++ (M ++ (N ++ O))) w := by
  have hp : (F ++ (N ++ (M ++ O))).Perm (F ++ (M ++ (N ++ O))) := by
    refine List.Perm.append_left F ?_
    rw [← List.append_assoc, ← List.append_assoc]
    exact List.Perm.append_right O List.perm_append_comm
  exact ⟨h.below, fun e he => h.ents e (hp.mem_iff.2 he), h.apart.perm hp (fun h => apart_symm h)⟩
theorem sub_hp {N : List Ent} (w : World) (h : Hp w0 (N ++ O) w) : Hp w0 O w := h.sub (List.sublist_append_right N O)
theorem put_swap {p q : Oper} (h : ∀ d, p.dst = some d → q.dst ≠ some d) (u u' : Value) (E : Env) : ∀ t, (putE (putE E p.dst u) q.dst u').get t = (putE (putE E q.dst u') p.dst u).get t := by
  intro t
  cases hp : p.dst with
  | none => rfl
  | some d =>
    cases hq : q.dst with
    | none => rfl
    | some d' => exact get_swap (fun e => h d hp (by rw [hq, e])) u' u t
theorem opd_put {o : Oper} {d : Option Nat} (h : ∀ x, d = some x → (o.looksAt ops).contains x = false) (u : Value) : ∀ x ∈ o.op.operands, (putE E d u).opd x = E.opd x := by
  cases d with
  | none => intro x _; rfl
  | some d => exact opd_other (h d rfl) u
theorem guard_put {o : Oper} {d : Option Nat} (h : ∀ x, d = some x → (o.looksAt ops).contains x = false) {u : Value} {g : Bool} : Guard ops (putE E d u) o g ↔ Guard ops E o g := by
  cases d with
  | none => exact Iff.rfl
  | some d => exact ⟨guard_other (h d rfl), guard_other' (h d rfl)⟩
/-- Of any two that are walked in this order the second waits for the first, directly, or they may change places. -/
def pairsOk (ops : Array Oper) : List (Nat × Kd) → Bool
  | [] => true
  | (i, k) :: π => (π.all fun (j, kj) => match ops[i]?, ops[j]? with
    | some p, some q => reach ops j i || swapOk ops k kj p q
    | _, _ => false) && pairsOk ops π
where
  /-- j waits for i, through others -/
  reach (ops : Array Oper) (j i : Nat) : Bool := go ops ops.size [j] i
  go (ops : Array Oper) : Nat → List Nat → Nat → Bool
    | 0, _, _ => false
    | f + 1, l, i =>
      let l' := l.flatMap fun j => match ops[j]? with | some o => (o.after.toList.filter (Region.binds .any)).map (·.on) | none => []
      l'.contains i || go ops f l' i
/-- every operation waits for earlier ones alone -/
def backOk (ops : Array Oper) : Bool := (List.range ops.size).all fun i => match ops[i]? with | some o => o.after.all fun e => !Region.binds .any e || e.on < i | none => false
theorem reach_listed {listed : Array Bool} (hcl : ∀ j o, ops[j]? = some o → listed.getD j false = true → ∀ e ∈ o.after, Region.binds .any e = true → listed.getD e.on false = true) :
    ∀ (f : Nat) (l : List Nat) (i : Nat), (∀ j ∈ l, ∀ o, ops[j]? = some o → ∀ e ∈ o.after, Region.binds .any e = true → listed.getD e.on false = true) → pairsOk.go ops f l i = true → listed.getD i false = true := by
  intro f
  induction f with
  | zero => intro l i _ h; simp [pairsOk.go] at h
  | succ f ih =>
    intro l i hl h
    simp only [pairsOk.go, Bool.or_eq_true] at h
    have hl' : ∀ j ∈ l.flatMap (fun j => match ops[j]? with | some o => (o.after.toList.filter (Region.binds .any)).map (·.on) | none => []), listed.getD j false = true := by
      intro j hj
      obtain ⟨m, hm, hjm⟩ := List.mem_flatMap.1 hj
      cases ho : ops[m]? with
      | none => rw [ho] at hjm; cases hjm
      | some o =>
        rw [ho] at hjm
        obtain ⟨e, he, rfl⟩ := List.mem_map.1 hjm
        obtain ⟨he1, he2⟩ := List.mem_filter.1 he
        exact hl m hm o ho e (Array.mem_toList_iff.1 he1) he2
    rcases h with h | h
    · exact hl' i (by simpa using h)
    · exact ih _ i (fun j hj o ho e he hb => hcl j o ho (hl' j hj) e he hb) h
theorem models_put {a : Act} {o : Oper} {v u : Value} (ha : Models n E a) (hd : DOk n o) (hv : cn v = u) : Models n (putE E o.dst u) (a.put o.dst v) := by
  cases h : o.dst with
  | none => exact ha
  | some d => exact ha.put (hd d h) hv
theorem pairsOk_mid {i : Nat} {k : Kd} : ∀ (A B : List (Nat × Kd)), pairsOk ops (A ++ (i, k) :: B) = true →
    (∀ j kj, (j, kj) ∈ A → ∃ p q, ops[j]? = some p ∧ ops[i]? = some q ∧ (pairsOk.reach ops i j = true ∨ swapOk ops kj k p q = true)) ∧ pairsOk ops (A ++ B) = true
  | [], B, h => by
    simp only [List.nil_append, pairsOk, Bool.and_eq_true] at h
    exact ⟨fun _ _ h => by (cases h), h.2⟩
  | (j, kj) :: A, B, h => by
    simp only [List.cons_append, pairsOk, Bool.and_eq_true, List.all_eq_true] at h ⊢
    obtain ⟨h1, h2⟩ := h
    obtain ⟨g1, g2⟩ := pairsOk_mid A B h2
    refine ⟨fun j' kj' hj => ?_, fun x hx => h1 x ?_, g2⟩
    · rcases List.mem_cons.1 hj with hj | hj
      · cases hj
        have := h1 (i, k) (by simp)
        dsimp only at this
        cases hp : ops[j]? with
        | none => rw [hp] at this; simp at this
        | some p =>
          cases hq : ops[i]? with
          | none => rw [hp, hq] at this; simp at this
          | some q =>
            rw [hp, hq] at this
            exact ⟨p, q, rfl, rfl, by simpa using this⟩
      · exact g1 j' kj' hj
    · rcases List.mem_append.1 hx with hx | hx
      · exact List.mem_append.2 (.inl hx)
      · exact List.mem_append.2 (.inr (List.mem_cons_of_mem _ hx))
theorem getDb {listed : Array Bool} {i : Nat} (h : listed.getD i true = false) : listed.getD i false = false := by
  rcases Nat.lt_or_ge i listed.size with h' | h'
  · simp [h'] at h ⊢; exact h
  · simp [Array.getElem?_eq_none h'] at h
theorem getD_set {l : Array Bool} {i j : Nat} {d : Bool} (hi : i < l.size) : (l.setIfInBounds i true).getD j d = if i = j then true else l.getD j d := by
  by_cases h : i = j
  · subst h; simp [hi]
  · rw [if_neg h]
    simp only [Array.getD_eq_getD_getElem?, Array.getElem?_setIfInBounds_ne h]
/-- The order in which the region is walked: each of its operations once. -/
def permOk (m : Nat) (π : List (Nat × Kd)) : Bool := (List.range m).all (fun i => (π.map (·.1)).contains i) && decide (π.length = m) && decide (π.map (·.1)).Nodup
theorem permOk_nodup {m : Nat} {π : List (Nat × Kd)} (h : permOk m π = true) : (π.map (·.1)).Nodup ∧ ∀ j, j < m → ∃ k, (j, k) ∈ π := by
  simp only [permOk, Bool.and_eq_true, List.all_eq_true, decide_eq_true_eq] at h
  have hmem : ∀ j, j < m → j ∈ π.map (·.1) := fun j hj => by simpa using h.1.1 j (List.mem_range.2 hj)
  refine ⟨h.2, fun j hj => ?_⟩
  obtain ⟨⟨j', k⟩, hk, rfl⟩ := List.mem_map.1 (hmem j hj)
  exact ⟨k, hk⟩
section
variable {o : Oper} {i d : Nat} {π : List (Nat × Kd)} {K : Env → List Ent → Prop}
theorem Wants.guard (h : Wants ops E o) : Guard ops E o true := by
  rcases h with h | ⟨j, b, t, h1, h2, h3⟩
  · exact .none h
  · have := Guard.some (b' := b) h1 h2 h3
    simpa using this
theorem dok (hd : o.dst = some d) (hdn : d < n) : DOk n o := fun d' h => by rw [hd] at h; cases h; exact hdn
theorem lax_ve {Q : Exit → Act → World → Prop} : Lax w0 (fun E O => VE n w0 O E Q .normal) := fun E E' O O' hE hO h a w ha hw => h a w (ha.mono fun t u ht => by rw [hE]; exact ht) (by simpa using hO [] w (by simpa using hw))
end
end
end Go.Proofs.Ytgeflnjjppgooaa

namespace Go.Proofs.Ytgeflnjjppgooaa
open Go.RowKit
def fl (xs : List Nat) : List Value := xs.map (Value.float .f32)
theorem fl_length (xs : List Nat) : (fl xs).length = xs.length := by simp [fl]
theorem fl_get {xs : List Nat} {k : Nat} (h : k < xs.length) : (fl xs)[k]? = some (.float .f32 (xs.getD k 0)) := by
  simp [fl, h]
theorem fl_scal (xs : List Nat) : (fl xs).all scal = true := by simp [fl, scal]
theorem fl_snoc (xs : List Nat) (x : Nat) : fl xs ++ [Value.float .f32 x] = fl (xs ++ [x]) := by simp [fl]
theorem fl_nil : fl [] = [] := rfl
theorem fl_set (xs : List Nat) (k x : Nat) : (fl xs).set k (.float .f32 x) = fl (xs.set k x) := by simp [fl, List.map_set]
theorem fl_inj {xs ys : List Nat} (h : fl xs = fl ys) : xs = ys := by
  induction xs generalizing ys with
  | nil => cases ys <;> simp [fl] at h ⊢
  | cons x xs ih =>
    cases ys with
    | nil => simp [fl] at h
    | cons y ys =>
      simp only [fl, List.map_cons, List.cons.injEq, Value.float.injEq, true_and] at h
      rw [h.1, ih h.2]
theorem fl_zeros (m : Nat) : cycle [Value.float .f32 0] m = fl (List.replicate m 0) := by
  induction m with
  | zero => rfl
  | succ m ih => simp [cycle, ih, fl, List.replicate_succ]
section
variable {P : Program} {n : Nat} {w0 : World} {O : List Ent} {E : Env} {Q : Exit → Act → World → Prop} {o : Oper}
theorem VL.r0 {ops : Array Oper} {rest : List Oper} {u : Value} (hg : Wants ops E o) (hd : o.dst = none) (hy : YR P E o u) (h : VL P n w0 O E ops Q rest) : VL P n w0 O E ops Q (o :: rest) := by
  intro a w ha hw
  refine wpList_step fun K hK => ?_
  rw [if_pos (hg.wanted ha)]
  unfold Oper.wp
  refine (hy a.eval w (ha.ev _)).upon fun v w' hv => hK _ _ ?_
  exact h _ _ (by rw [hd]; exact ha) (hw.ext hv.2)
/-- A slice held against nil. -/
theorem run_neq_nil {t e : TypeId} (ht : P.underlying t = some (.slice e)) (a : Option Addr) (m c : Nat) (w : World) : (Op.equal t (.slice a m c) (.slice none 0 0)).run P w = .ok a.isNone w := run_equal_slice_nil w t e a m c ht
def ExtF (P : Program) (f : FuncId) (e : Array Value → Sem Value) : Prop := ∃ fn, P.funcs[f]? = some fn ∧ (fn.name == "runtime.NumGoroutine") = false ∧ fn.body = none ∧ Extern.findNext fn = none ∧ Extern.find fn = some e
/-- to the nearest whole number -/
def fround (x : Nat) : Nat := match FloatKind.f64.decode x with | .nan _ _ => qn .f64 | d => FloatKind.f64.encode (d.integral .even)
def fsqrt (x : Nat) : Nat := (Ieee.double.sqrt x).getD (qn .f64)
theorem one_arg {vs : Array Value} {k : FloatKind} {x : Nat} (h : vs.toList.map cn = [.float k x]) : ∃ b, vs = #[.float k b] ∧ cb k b = x := by
  obtain ⟨l⟩ := vs
  cases l with
  | nil => simp at h
  | cons v l =>
    cases l with
    | nil =>
      simp only [List.map_cons, List.map_nil, List.cons.injEq, and_true] at h
      obtain ⟨b, rfl, hb⟩ := cn_float h
      exact ⟨b, rfl, hb⟩
    | cons _ _ => simp at h
theorem sqrt_eq (x : Nat) : Extern.MathSqrt.sqrt #[.float .f64 x] = (match Ieee.double.sqrt x with
    | some r => pure (.float .f64 r)
    | none => do pure (.float .f64 (← choose (.nanBits .f64 x x)))) := rfl
theorem ext_sqrt (vs : Array Value) (w : World) {x : Nat} (h : vs.toList.map cn = [.float .f64 x]) : ∃ v w', (Extern.MathSqrt.sqrt vs).run P w = .ok v w' ∧ cn v = .float .f64 (fsqrt x) ∧ Below w.heap.size w w' := by
  obtain ⟨b, rfl, rfl⟩ := one_arg h
  have hcb : Ieee.double.sqrt (cb .f64 b) = Ieee.double.sqrt b := by
    cases hn : fnan .f64 b
    · have := read_cb hn
      unfold Ieee.Format.sqrt
      rw [show Ieee.double.read (cb .f64 b) = Ieee.double.read b from this]
    · obtain ⟨s1, f1, h1⟩ := read_nan hn
      obtain ⟨s2, f2, h2⟩ := read_nan (k := .f64) (b := cb .f64 b) (by rw [fnan_cb, hn])
      have h1' : Ieee.double.read b = .nan s1 f1 := h1
      have h2' : Ieee.double.read (cb .f64 b) = .nan s2 f2 := h2
      unfold Ieee.Format.sqrt
      rw [h1', h2']; rfl
  unfold fsqrt
  rw [hcb]
  cases hs : Ieee.double.sqrt b with
  | some r =>
    refine ⟨.float .f64 r, w, by simp [sqrt_eq, hs], ?_, Below.refl _ _⟩
    have hnum : fnan .f64 r = false := by
      unfold Ieee.Format.sqrt at hs
      obtain ⟨d, hd, rfl⟩ := Option.map_eq_some_iff.1 hs
      exact write_num Ieee.double (root_num hd)
    have hlt : r < 2 ^ FloatKind.f64.format.width := Ieee.Format.sqrt_lt _ hs
    simp [cn, cn1, cn0, cb_of_num hnum hlt]
  | none =>
    refine ⟨_, { w with drawn := w.drawn + 1 }, by simp [sqrt_eq, hs, choose, Sem.run, Question.forced]; rfl, ?_, below_drew _ _⟩
    simp only [cn, cn1, cn0, Option.getD_none]
    rw [cb_of_nan (cut_nan .f64 b b _)]
inductive Cov (E : Env) : Env → Prop
  | nil : Cov E []
  | cons {t : Nat} {u : Value} {E' : Env} : E.get t = some u → Cov E E' → Cov E ((t, u) :: E')
theorem Cov.get {E E' : Env} (h : Cov E E') : ∀ t u, E'.get t = some u → E.get t = some u := by
  induction h with
  | nil => intro t u h; simp [Env.get] at h
  | cons h1 _ ih =>
    intro t u h
    simp only [Env.get] at h
    split at h
    · rename_i hb
      cases h
      obtain rfl := Nat.eq_of_beq_eq_true hb
      exact h1
    · exact ih t u h
theorem Cov.append {E A B : Env} (h : Cov E A) (k : Cov E B) : Cov E (A ++ B) := by
  induction h with
  | nil => exact k
  | cons h1 _ ih => exact .cons h1 ih
/-- What a round leads to: the head again, nearer to the end. -/
def RoundQ {G : Type} (n : Nat) (w0 : World) (Ec : Env) (I : G → Prop) (Og : G → List Ent) (Ev' : G → Env) (μ : G → Nat) (g : G) : Act → World → Prop :=
  fun a w => ∃ g', I g' ∧ Models n (Ev' g' ++ Ec) a ∧ Hp w0 (Og g') w ∧ μ g' < μ g
theorem VE.round {G : Type} {Ec : Env} {I : G → Prop} {Og : G → List Ent} {Ev' : G → Env} {μ : G → Nat} {g : G} (g' : G)
    (hE : Cov E (Ev' g')) (hc : Cov E Ec) (hO : ∀ w, Hp w0 O w → Hp w0 (Og g') w) (hI : I g') (hμ : μ g' < μ g) :
    VE n w0 O E (Exit.then (RoundQ n w0 Ec I Og Ev' μ g) Q) .normal :=
  fun _ w ha hw => ⟨g', hI, ha.mono (hE.append hc).get, hO w hw, hμ⟩
end
theorem Hp.out1 {w0 w1 : World} {e : Ent} {O : List Ent} (h : Hp w0 (e :: O) w1) : Below w0.heap.size w0 w1 ∧ (∀ f ∈ [e], f.at w0.heap.size w1) ∧ [e].Pairwise Ent.apart :=
  ⟨h.below, fun f hf => h.ents f (by rw [List.mem_singleton] at hf; subst hf; exact List.mem_cons_self), List.pairwise_singleton _ _⟩
theorem Hp.outs {w0 w1 : World} {N O : List Ent} (h : Hp w0 O w1) (hs : N.Sublist O) : Below w0.heap.size w0 w1 ∧ (∀ f ∈ N, f.at w0.heap.size w1) ∧ N.Pairwise Ent.apart :=
  ⟨h.below, fun f hf => h.ents f (hs.subset hf), h.apart.sublist hs⟩
theorem Pick.one {O F : List Ent} {e : Ent} (h : Rem O [e] F) : Pick O [e] F := Pick.take h .nil
theorem Pick.two {O O1 F R : List Ent} {e : Ent} (h : Rem O [e] O1) (h2 : Rem O1 R F) : Pick O (e :: R) F := Pick.take h (by simpa using Pick.take h2 .nil)
theorem Pick.four {O O1 O2 O3 F R : List Ent} {e1 e2 e3 : Ent} (h1 : Rem O [e1] O1) (h2 : Rem O1 [e2] O2) (h3 : Rem O2 [e3] O3) (h4 : Rem O3 R F) : Pick O (e1 :: e2 :: e3 :: R) F := Pick.take h1 (Pick.take h2 (Pick.two h3 h4))
theorem Rem.all {S : List Ent} : Rem S S [] := by simpa using (Rem.hereS (S := S) (O := []))
/-- What a function that turns its caller's blocks hands back, in the caller's order. -/
theorem Hp.take {w0 w : World} {O M F F' : List Ent} (hw : Hp w0 O w) (h : Pick O M F') (hs : F.Sublist F') : Hp w0 (F ++ M) w := (hw.perm' h.perm).sub (hs.append (List.Sublist.refl M))
theorem take_set_succ {ys xs : List Nat} {k : Nat} (hl : ys.length = xs.length) (ht : ys.take k = xs.take k) (hk : k < xs.length) : (ys.set k (xs.getD k 0)).take (k + 1) = xs.take (k + 1) := by
  apply List.ext_getElem?
  intro j
  have hj := congrArg (·[j]?) ht
  simp only [List.getElem?_take] at hj ⊢
  by_cases h1 : j < k
  · rw [if_pos h1, if_pos h1] at hj
    rw [if_pos (by omega), if_pos (by omega), List.getElem?_set_ne (by omega), hj]
  · by_cases h2 : j = k
    · subst h2
      rw [if_pos (by omega), if_pos (by omega), List.getElem?_set_self (by omega)]
      simp [hk]
    · rw [if_neg (by omega), if_neg (by omega)]
theorem take_all {ys xs : List Nat} {k : Nat} (hl : ys.length = xs.length) (ht : ys.take k = xs.take k) (hk : xs.length ≤ k) : ys = xs := by
  rwa [List.take_of_length_le (by omega), List.take_of_length_le hk] at ht
theorem getD_mem {xs : List Nat} {k : Nat} (h : k < xs.length) : xs.getD k 0 ∈ xs := by simp [h]
theorem bnot_t {b : Bool} (h : (!b) = true) : b = false := by simpa using h
theorem bnot_f {b : Bool} (h : (!b) = false) : b = true := by simpa using h
theorem ic_lss {a b : Int} (h : icmp .lss a b = true) : a < b := of_decide_eq_true h
theorem ic_lss' {a b : Int} (h : icmp .lss a b = false) : b ≤ a := by have := of_decide_eq_false h; omega
theorem ic_leq {a b : Int} (h : icmp .leq a b = true) : a ≤ b := of_decide_eq_true h
theorem ic_leq' {a b : Int} (h : icmp .leq a b = false) : b < a := by have := of_decide_eq_false h; omega
theorem ic_gtr {a b : Int} (h : icmp .gtr a b = true) : b < a := of_decide_eq_true h
theorem ic_gtr' {a b : Int} (h : icmp .gtr a b = false) : a ≤ b := by have := of_decide_eq_false h; omega
theorem ic_geq {a b : Int} (h : icmp .geq a b = true) : b ≤ a := of_decide_eq_true h
theorem ic_geq' {a b : Int} (h : icmp .geq a b = false) : a < b := by have := of_decide_eq_false h; omega
theorem ic_eql {a b : Int} (h : icmp .eql a b = true) : a = b := by simpa [icmp] using h
theorem ic_eql' {a b : Int} (h : icmp .eql a b = false) : a ≠ b := by simpa [icmp] using h
theorem ic_neq {a b : Int} (h : icmp .neq a b = true) : a ≠ b := by simpa [icmp] using h
theorem ic_neq' {a b : Int} (h : icmp .neq a b = false) : a = b := by simpa [icmp] using h
theorem wrap_in {a : Int} (h : -9223372036854775808 ≤ a ∧ a ≤ 9223372036854775807) : IntKind.i64.wrap a = a := IntWalk.i64_in a h
theorem gset {xs : List Nat} {j v : Nat} (h : j < xs.length) (i : Nat) : (xs.set j v).getD i 0 = if i = j then v else xs.getD i 0 := by
  simp only [List.getD, List.getElem?_set]
  by_cases e : j = i
  · subst e; simp [h]
  · rw [if_neg e, if_neg (fun h => e h.symm)]
theorem ext_getD {xs ys : List Nat} (hl : xs.length = ys.length) (h : ∀ i, i < xs.length → xs.getD i 0 = ys.getD i 0) : xs = ys := by
  apply List.ext_getElem hl
  intro i h1 h2
  have := h i h1
  simpa [List.getD, h1, h2] using this
theorem getD_range (n : Nat) (f : Nat → Nat) {i : Nat} (h : i < n) : ((List.range n).map f).getD i 0 = f i := by
  simp [List.getD, h]
theorem idx_lt {n j k : Nat} (hj : j < n) (hk : k < n) : j * n + k < n * n := by
  have : (j + 1) * n ≤ n * n := Nat.mul_le_mul_right n hj
  rw [Nat.add_mul] at this
  omega
theorem mul_small {a b : Nat} (ha : a ≤ 2147483648) (hb : b ≤ 2147483648) : a * b ≤ 4611686018427387904 := Nat.mul_le_mul ha hb
end Go.Proofs.Ytgeflnjjppgooaa

namespace Go.Proofs.Ytgeflnjjppgooaa
open Go.RowKit
theorem pow_pos' (n : Nat) : 0 < 2 ^ n := Nat.pow_pos (by decide)
/-- how many units a rung stands for -/
def units (f : Ieee.Format) (r : Nat) : Nat := if r < f.binade then r else (f.binade + r % f.binade) * 2 ^ (r / f.binade - 1)
theorem units_bounds (f : Ieee.Format) {r : Nat} (h : f.binade ≤ r) : f.binade * 2 ^ (r / f.binade - 1) ≤ units f r ∧ units f r < f.binade * 2 ^ (r / f.binade) := by
  have hb : 0 < f.binade := pow_pos' _
  have hq : 1 ≤ r / f.binade := (Nat.le_div_iff_mul_le hb).2 (by omega)
  have hm := Nat.mod_lt r hb
  have hp := pow_pos' (r / f.binade - 1)
  unfold units
  rw [if_neg (by omega)]
  constructor
  · exact Nat.mul_le_mul_right _ (by omega)
  · have e : r / f.binade = (r / f.binade - 1) + 1 := by omega
    rw [e, Nat.pow_succ, Nat.add_sub_cancel, Nat.mul_comm (2 ^ (r / f.binade - 1)) 2, ← Nat.mul_assoc]
    exact Nat.mul_lt_mul_of_pos_right (by omega) hp
theorem units_inj (f : Ieee.Format) {r s : Nat} (h : units f r = units f s) : r = s := by
  have hb : 0 < f.binade := pow_pos' _
  have key : ∀ r s, r / f.binade < s / f.binade → units f r < units f s := by
    intro r s hlt
    have hs : f.binade ≤ s := by
      have := (Nat.le_div_iff_mul_le (x := 1) hb).1 (Nat.lt_of_le_of_lt (Nat.zero_le _) hlt)
      omega
    have h2 := (units_bounds f hs).1
    by_cases hr : r < f.binade
    · have : units f r = r := by unfold units; rw [if_pos hr]
      have hp := pow_pos' (s / f.binade - 1)
      have : f.binade ≤ f.binade * 2 ^ (s / f.binade - 1) := Nat.le_mul_of_pos_right _ hp
      omega
    · have h1 := (units_bounds f (Nat.le_of_not_lt hr)).2
      have : f.binade * 2 ^ (r / f.binade) ≤ f.binade * 2 ^ (s / f.binade - 1) := Nat.mul_le_mul_left _ (Nat.pow_le_pow_right (by decide) (by omega))
      omega
  rcases Nat.lt_trichotomy (r / f.binade) (s / f.binade) with hlt | heq | hgt
  · have := key r s hlt; omega
  · have h3 : r % f.binade = s % f.binade := by
      unfold units at h
      by_cases hr : r < f.binade
      · have hs : s < f.binade := by
          rw [Nat.div_eq_of_lt hr] at heq
          rcases Nat.lt_or_ge s f.binade with h' | h'
          · exact h'
          · have := (Nat.le_div_iff_mul_le (x := 1) (y := s) hb).2 (by omega); omega
        rw [if_pos hr, if_pos hs] at h
        rw [h]
      · have hs : ¬ s < f.binade := by
          intro hs
          rw [Nat.div_eq_of_lt hs] at heq
          have := (Nat.le_div_iff_mul_le (x := 1) (y := r) hb).2 (by omega); omega
        rw [if_neg hr, if_neg hs, heq] at h
        have := Nat.eq_of_mul_eq_mul_right (pow_pos' _) h
        omega
    have e1 := Nat.div_add_mod r f.binade
    have e2 := Nat.div_add_mod s f.binade
    rw [heq, h3] at e1
    omega
  · have := key s r hgt; omega
def sgn (f : Ieee.Format) (x : Nat) : Bool := x / f.signWeight % 2 == 1
def rng (f : Ieee.Format) (x : Nat) : Nat := x % f.signWeight
/-- A word that stands for a number: its mag and place, in units. -/
theorem read_number (f : Ieee.Format) {x : Nat} (h : rng f x < f.infRung) : ∃ m e, f.read x = .number (sgn f x) m (f.leastPlace + (e : Nat)) ∧ m * 2 ^ e = units f (rng f x) := by
  unfold Ieee.Format.read units rng at *
  simp only
  split
  · exact ⟨x % f.signWeight, 0, by simp [sgn], by simp⟩
  · exact ⟨f.binade + x % f.signWeight % f.binade, x % f.signWeight / f.binade - 1, rfl, rfl⟩
theorem binade_le (k : FloatKind) : k.format.binade ≤ k.format.infRung := by cases k <;> decide
theorem read_inf (k : FloatKind) {x : Nat} (h : rng k.format x = k.format.infRung) : k.format.read x = .infinity (sgn k.format x) := by
  have hb := binade_le k
  unfold Ieee.Format.read rng at *
  simp only
  rw [h, if_neg (by omega), if_neg (by omega), if_pos rfl]; rfl
theorem read_big (k : FloatKind) {x : Nat} (h : k.format.infRung < rng k.format x) : fnan k x = true := by
  have hb := binade_le k
  unfold fnan FloatKind.decode Ieee.Format.read rng at *
  simp only
  rw [if_neg (by omega), if_neg (by omega), if_neg (by omega)]; rfl
/-- a canonical word -/
def Can (k : FloatKind) (x : Nat) : Prop := cb k x = x ∧ x < 2 ^ k.format.width
theorem Can.lt {k : FloatKind} {x : Nat} (h : Can k x) : x < 2 ^ k.format.width := h.2
theorem Can.nan {k : FloatKind} {x : Nat} (h : Can k x) (hn : fnan k x = true) : x = qn k := by rw [← cb_of_nan hn]; exact h.1.symm
theorem rng_le {k : FloatKind} {x : Nat} (h : fnan k x = false) : rng k.format x ≤ k.format.infRung := by
  rcases Nat.lt_or_ge k.format.infRung (rng k.format x) with h' | h'
  · rw [read_big k h'] at h; cases h
  · exact h'
theorem signed_val (s : Bool) (m a : Nat) : Ieee.signed s m a = if s then -((m * 2 ^ a : Nat) : Int) else ((m * 2 ^ a : Nat) : Int) := by
  unfold Ieee.signed; rw [Nat.shiftLeft_eq]
/-- How two numbers compare, in units. -/
def sval (f : Ieee.Format) (x : Nat) : Int := if sgn f x then -(units f (rng f x) : Int) else (units f (rng f x) : Int)
theorem order_number {k : FloatKind} {x y : Nat} (hx : rng k.format x < k.format.infRung) (hy : rng k.format y < k.format.infRung) : k.format.order x y = some (compare (sval k.format x) (sval k.format y)) := by
  obtain ⟨m, a, h1, h2⟩ := read_number k.format hx
  obtain ⟨m', a', h3, h4⟩ := read_number k.format hy
  unfold Ieee.Format.order
  rw [h1, h3]
  simp only [Ieee.Datum.order, signed_val, Option.some.injEq]
  unfold sval
  rw [← h2, ← h4]
  -- the place that both have
  generalize hc : min a a' = c
  have e1 : (k.format.leastPlace + (a : Int) - min (k.format.leastPlace + (a : Int)) (k.format.leastPlace + (a' : Int))).toNat = a - c := by omega
  have e2 : (k.format.leastPlace + (a' : Int) - min (k.format.leastPlace + (a : Int)) (k.format.leastPlace + (a' : Int))).toNat = a' - c := by omega
  rw [e1, e2]
  have e3 : m * 2 ^ a = m * 2 ^ (a - c) * 2 ^ c := by rw [Nat.mul_assoc, ← Nat.pow_add]; congr 2; omega
  have e4 : m' * 2 ^ a' = m' * 2 ^ (a' - c) * 2 ^ c := by rw [Nat.mul_assoc, ← Nat.pow_add]; congr 2; omega
  rw [e3, e4]
  have hp : (0 : Int) < ((2 ^ c : Nat) : Int) := by exact_mod_cast pow_pos' c
  generalize m * 2 ^ (a - c) = u
  generalize m' * 2 ^ (a' - c) = v
  have key : ∀ p q : Int, compare p q = compare (p * ((2 ^ c : Nat) : Int)) (q * ((2 ^ c : Nat) : Int)) := by
    intro p q
    generalize ((2 ^ c : Nat) : Int) = t at hp
    simp only [compare, compareOfLessAndEq]
    have l1 : p < q ↔ p * t < q * t := ⟨fun h => Int.mul_lt_mul_of_pos_right h hp, fun h => Int.lt_of_mul_lt_mul_right h (Int.le_of_lt hp)⟩
    have l2 : p = q ↔ p * t = q * t := ⟨fun h => by rw [h], fun h => Int.eq_of_mul_eq_mul_right (Int.ne_of_gt hp) h⟩
    by_cases c1 : p < q
    · rw [if_pos c1, if_pos (l1.1 c1)]
    · rw [if_neg c1, if_neg (fun h => c1 (l1.2 h))]
      by_cases c2 : p = q
      · rw [if_pos c2, if_pos (l2.1 c2)]
      · rw [if_neg c2, if_neg (fun h => c2 (l2.2 h))]
  have hs : ∀ (s : Bool) (u : Nat), (if s = true then -((u * 2 ^ c : Nat) : Int) else ((u * 2 ^ c : Nat) : Int)) = (if s = true then -(u : Int) else (u : Int)) * ((2 ^ c : Nat) : Int) := by
    intro s u
    cases s
    · simp only [Bool.false_eq_true, if_false, Int.natCast_mul]
    · simp only [if_true, Int.natCast_mul, Int.neg_mul]
  rw [hs, hs, ← key]
theorem compare_eq {a b : Int} : compare a b = .eq ↔ a = b := by
  simp only [compare, compareOfLessAndEq]
  by_cases h : a < b
  · rw [if_pos h]; constructor
    · intro h'; cases h'
    · intro h'; omega
  · rw [if_neg h]
    by_cases h2 : a = b
    · rw [if_pos h2]; exact ⟨fun _ => h2, fun _ => rfl⟩
    · rw [if_neg h2]; constructor
      · intro h'; cases h'
      · intro h'; exact absurd h' h2
theorem order_self {k : FloatKind} {x : Nat} (h : fnan k x = false) : k.format.order x x = some .eq := by
  rcases Nat.lt_or_ge (rng k.format x) k.format.infRung with h' | h'
  · rw [order_number h' h', Option.some.injEq, compare_eq]
  · have := rng_le h
    have hr := read_inf k (x := x) (by omega)
    unfold Ieee.Format.order
    rw [hr]
    cases sgn k.format x <;> rfl
theorem fne_self (k : FloatKind) (x : Nat) : fcmp .neq k x x = fnan k x := by
  cases h : fnan k x
  · simp [fcmp, order_self h]
  · simp [fcmp, order_nan_left h]
theorem units_zero (f : Ieee.Format) {r : Nat} : units f r = 0 ↔ r = 0 := by
  constructor
  · intro h
    have h0 : units f 0 = 0 := by unfold units; rw [if_pos (show 0 < f.binade from pow_pos' _)]
    exact units_inj f (h.trans h0.symm)
  · intro h; subst h; unfold units; rw [if_pos (show 0 < f.binade from pow_pos' _)]
theorem fover_up (x : Nat) : fover .f32 .f64 x = false := by
  unfold fover
  rw [if_neg (by decide)]
  cases hr : FloatKind.f32.decode x with
  | nan s f => rfl
  | infinity s => rfl
  | number s m e =>
    -- what such a word reads as
    have hm : m < 2 ^ 24 ∧ -149 ≤ e ∧ e ≤ 104 := by
      have hsw : FloatKind.f32.format.signWeight = 2147483648 := by decide
      have hinf : FloatKind.f32.format.infRung = 2139095040 := by decide
      have hbin : FloatKind.f32.format.binade = 8388608 := by decide
      have hlp : FloatKind.f32.format.leastPlace = -149 := by decide
      unfold FloatKind.decode Ieee.Format.read at hr
      simp only [hsw, hinf, hbin, hlp] at hr
      split at hr
      · cases hr; omega
      · split at hr
        · cases hr
          have : x % 2147483648 / 8388608 ≤ 254 := by omega
          omega
        · split at hr <;> cases hr
    obtain ⟨h1, h2, h3⟩ := hm
    simp only
    have key : ∀ r, r < 9218868437227405312 → ((FloatKind.f64.decode (Ieee.double.word s r)).isInfinity) = false := by
      intro r hr
      have hsw : Ieee.double.signWeight = 9223372036854775808 := by decide
      have hinf : Ieee.double.infRung = 9218868437227405312 := by decide
      have e : Ieee.double.word s r % 9223372036854775808 = r := by
        unfold Ieee.Format.word; rw [hsw]; split <;> omega
      unfold FloatKind.decode FloatKind.format Ieee.Format.read
      simp only [hsw, hinf, e]
      by_cases h1 : r < Ieee.double.binade
      · rw [if_pos h1]; rfl
      · rw [if_neg h1, if_pos hr]; rfl
    show (FloatKind.f64.decode (Ieee.double.nearest s m e)).isInfinity = false
    unfold Ieee.Format.nearest
    have hfb : Ieee.double.fractionBits = 52 := rfl
    have hlp : Ieee.double.leastPlace = -1074 := by decide
    have hbin : Ieee.double.binade = 4503599627370496 := by decide
    have hinf : Ieee.double.infRung = 9218868437227405312 := by decide
    split
    · exact key 0 (by decide)
    · rename_i hm0
      have hl : m.log2 ≤ 23 := by
        have := (Nat.log2_lt hm0).2 h1
        omega
      simp only [hfb, hlp, hbin, hinf]
      have hlast : max (e + (m.log2 : Int) - ((52 : Nat) : Int)) (-1074) = e + (m.log2 : Int) - 52 := by omega
      rw [hlast]
      have e1 : (e - (e + (m.log2 : Int) - 52)).toNat = 52 - m.log2 := by omega
      have e2 : (e + (m.log2 : Int) - 52 - e).toNat = 0 := by omega
      rw [e1, e2]
      have hcut : ∀ n, Ieee.Toward.even.cut s n 0 = n := by
        intro n
        unfold Ieee.Toward.cut
        simp [Nat.mod_one]
      rw [hcut]
      refine key _ ?_
      have hk : m <<< (52 - m.log2) < 2 ^ 53 := by
        rw [Nat.shiftLeft_eq]
        have hlt : m < 2 ^ (m.log2 + 1) := Nat.lt_log2_self
        have : m * 2 ^ (52 - m.log2) < 2 ^ (m.log2 + 1) * 2 ^ (52 - m.log2) := Nat.mul_lt_mul_of_pos_right hlt (pow_pos' _)
        rw [← Nat.pow_add] at this
        have e3 : m.log2 + 1 + (52 - m.log2) = 53 := by omega
        rwa [e3] at this
      have e4 : (e + (m.log2 : Int) - 52 - -1074).toNat ≤ 1149 := by omega
      have e6 : (2 : Nat) ^ 53 = 9007199254740992 := by decide
      rw [e6] at hk
      exact room _ _ e4 hk
where
  room (a b : Nat) (ha : a ≤ 1149) (hb : b < 9007199254740992) : min (a * 4503599627370496 + b) 9218868437227405312 < 9218868437227405312 := by omega
theorem double_word (s : Bool) {r : Nat} (h : r < 9223372036854775808) : sgn Ieee.double (Ieee.double.word s r) = s ∧ rng Ieee.double (Ieee.double.word s r) = r := by
  have hsw : Ieee.double.signWeight = 9223372036854775808 := by decide
  unfold sgn rng Ieee.Format.word
  rw [hsw]
  cases s
  · simp only [Bool.false_eq_true, if_false]
    refine ⟨?_, Nat.mod_eq_of_lt h⟩
    rw [Nat.div_eq_of_lt h]; rfl
  · simp only [if_true]
    refine ⟨?_, ?_⟩
    · rw [Nat.add_div_left _ (by decide), Nat.div_eq_of_lt h]; rfl
    · rw [Nat.add_mod_left, Nat.mod_eq_of_lt h]
theorem min_room (a b : Nat) (ha : a ≤ 1149) (hb : b < 9007199254740992) : min (a * 4503599627370496 + b) 9218868437227405312 = a * 4503599627370496 + b := Nat.min_eq_left (by omega)
theorem sum_room (a b : Nat) (ha : a ≤ 1149) (hb : b < 9007199254740992) : a * 4503599627370496 + b < 9218868437227405312 := by omega
theorem ge_room (a b : Nat) (hb : 4503599627370496 ≤ b) : ¬ a * 4503599627370496 + b < 4503599627370496 := by omega
theorem div_room (B a b : Nat) (h1 : B ≤ b) (h2 : b < B + B) : (a * B + b) / B = a + 1 ∧ (a * B + b) % B = b - B := by
  have hB : 0 < B := by omega
  obtain ⟨t, rfl⟩ := Nat.exists_eq_add_of_le h1
  have e : a * B + (B + t) = t + (a + 1) * B := by rw [Nat.add_mul]; omega
  rw [e, Nat.add_mul_div_right _ _ hB, Nat.add_mul_mod_self_right, Nat.div_eq_of_lt (by omega), Nat.mod_eq_of_lt (by omega)]
  omega
/-- The exact word of a small number in the wider kind. -/
theorem nearest_exact (s : Bool) {m : Nat} {e : Int} (h1 : m < 2 ^ 24) (h2 : -149 ≤ e) (h3 : e ≤ 104) :
    ∃ r, Ieee.double.nearest s m e = Ieee.double.word s r ∧ r < 9218868437227405312 ∧ units Ieee.double r = m * 2 ^ (e + 1074).toNat := by
  unfold Ieee.Format.nearest
  have hfb : Ieee.double.fractionBits = 52 := rfl
  have hlp : Ieee.double.leastPlace = -1074 := by decide
  have hbin : Ieee.double.binade = 4503599627370496 := by decide
  have hinf : Ieee.double.infRung = 9218868437227405312 := by decide
  by_cases hm0 : m = 0
  · rw [if_pos hm0]
    refine ⟨0, rfl, by decide, ?_⟩
    subst hm0
    rw [Nat.zero_mul]
    exact (units_zero _).2 rfl
  · rw [if_neg hm0]
    have hl : m.log2 ≤ 23 := by
      have := (Nat.log2_lt hm0).2 h1
      omega
    have hlow : 2 ^ m.log2 ≤ m := Nat.log2_self_le hm0
    have hup : m < 2 ^ (m.log2 + 1) := Nat.lt_log2_self
    simp only [hfb, hlp, hbin, hinf]
    generalize m.log2 = l at *
    have hlast : max (e + (l : Int) - ((52 : Nat) : Int)) (-1074) = e + (l : Int) - 52 := by omega
    rw [hlast]
    have e1 : (e - (e + (l : Int) - 52)).toNat = 52 - l := by omega
    have e2 : (e + (l : Int) - 52 - e).toNat = 0 := by omega
    rw [e1, e2]
    have hcut : ∀ n, Ieee.Toward.even.cut s n 0 = n := by
      intro n
      unfold Ieee.Toward.cut
      simp [Nat.mod_one]
    rw [hcut, Nat.shiftLeft_eq]
    have hk2 : m * 2 ^ (52 - l) < 9007199254740992 := by
      have : m * 2 ^ (52 - l) < 2 ^ (l + 1) * 2 ^ (52 - l) := Nat.mul_lt_mul_of_pos_right hup (pow_pos' _)
      rw [← Nat.pow_add, show l + 1 + (52 - l) = 53 by omega] at this
      exact this
    have hk1 : 4503599627370496 ≤ m * 2 ^ (52 - l) := by
      have : 2 ^ l * 2 ^ (52 - l) ≤ m * 2 ^ (52 - l) := Nat.mul_le_mul_right _ hlow
      rw [← Nat.pow_add, show l + (52 - l) = 52 by omega] at this
      exact this
    have e4 : (e + (l : Int) - 52 - -1074).toNat ≤ 1149 := by omega
    have e6 : (e + 1074).toNat = (52 - l) + (e + (l : Int) - 52 - -1074).toNat := by omega
    rw [e6, Nat.pow_add, ← Nat.mul_assoc]
    generalize (e + (l : Int) - 52 - -1074).toNat = a at *
    generalize m * 2 ^ (52 - l) = b at *
    rw [min_room a b e4 hk2]
    refine ⟨_, rfl, sum_room a b e4 hk2, ?_⟩
    obtain ⟨q1, q2⟩ := div_room 4503599627370496 a b hk1 hk2
    unfold units
    rw [hbin, q1, q2, Nat.add_sub_cancel, Nat.add_sub_cancel' hk1, if_neg (ge_room a b hk1)]
theorem read32 {x : Nat} {s : Bool} {m : Nat} {e : Int} (hr : FloatKind.f32.decode x = .number s m e) : m < 2 ^ 24 ∧ -149 ≤ e ∧ e ≤ 104 := by
  have hsw : FloatKind.f32.format.signWeight = 2147483648 := by decide
  have hinf : FloatKind.f32.format.infRung = 2139095040 := by decide
  have hbin : FloatKind.f32.format.binade = 8388608 := by decide
  have hlp : FloatKind.f32.format.leastPlace = -149 := by decide
  unfold FloatKind.decode Ieee.Format.read at hr
  simp only [hsw, hinf, hbin, hlp] at hr
  split at hr
  · cases hr; omega
  · split at hr
    · cases hr
      have : x % 2147483648 / 8388608 ≤ 254 := by omega
      omega
    · split at hr <;> cases hr
/-- the number with those bits, in the wider kind -/
@[reducible] def up (x : Nat) : Nat := fconv .f32 .f64 x
def pow2 (n : Nat) : Nat := 2 ^ n
theorem pow2_add (a n : Nat) : 2 ^ (a + n) = 2 ^ a * pow2 n := Nat.pow_add 2 a n
def upK : Nat := pow2 925
theorem up_number {x : Nat} (h : rng Ieee.single x < Ieee.single.infRung) : sgn Ieee.double (up x) = sgn Ieee.single x ∧ rng Ieee.double (up x) < Ieee.double.infRung ∧ units Ieee.double (rng Ieee.double (up x)) = units Ieee.single (rng Ieee.single x) * upK := by
  obtain ⟨m, a, h1, h2⟩ := read_number Ieee.single h
  have hlp : Ieee.single.leastPlace = -149 := by decide
  have hd : FloatKind.f32.decode x = .number (sgn Ieee.single x) m (-149 + (a : Int)) := by rw [← hlp]; exact h1
  obtain ⟨g1, g2, g3⟩ := read32 hd
  obtain ⟨r, r1, r2, r3⟩ := nearest_exact (sgn Ieee.single x) g1 g2 g3
  have hup : up x = Ieee.double.word (sgn Ieee.single x) r := by
    unfold up fconv
    rw [if_neg (by decide), hd]
    exact r1
  have hlt : r < 9223372036854775808 := by omega
  obtain ⟨w1, w2⟩ := double_word (sgn Ieee.single x) hlt
  have hinf : Ieee.double.infRung = 9218868437227405312 := by decide
  rw [hup, w1, w2, hinf]
  refine ⟨rfl, r2, ?_⟩
  rw [r3, ← h2, Nat.mul_assoc]
  have e1 : (-149 + (a : Int) + 1074).toNat = a + 925 := by omega
  rw [e1, pow2_add, upK]
theorem up_nan {x : Nat} (h : fnan .f32 x = true) : up x = qn .f64 := by
  obtain ⟨s, f, hr⟩ := read_nan h
  unfold up fconv FloatKind.decode
  rw [if_neg (by decide), hr]
theorem can_up (x : Nat) : Can .f64 (fconv .f32 .f64 x) := ⟨cb_fconv _ _ _ (by decide), fconv_lt _ _ _ (by decide)⟩
theorem can_fop (op : BinOp) (k : FloatKind) (x y : Nat) : Can k (fop op k x y) := ⟨cb_fop op k x y, fop_lt op k x y⟩
def fin (x : Nat) : Bool := fcmp .eql .f32 (fop .sub .f32 x x) 0
def above (x : Nat) : Bool := fin x && fcmp .gtr .f32 x 0
def least (x : Nat) : Bool := fin x && fcmp .geq .f32 x 0
end Go.Proofs.Ytgeflnjjppgooaa

namespace Go.Proofs.Ytgeflnjjppgooaa
open Go.RowKit
theorem shl_eq (a b : Nat) : a <<< b = a * 2 ^ b := Nat.shiftLeft_eq a b
theorem log2_mul_pow {m : Nat} (h : m ≠ 0) (k : Nat) : (m * 2 ^ k).log2 = m.log2 + k := by
  have h1 := Nat.log2_self_le h
  have h2 : m < 2 ^ (m.log2 + 1) := Nat.lt_log2_self
  have hne : m * 2 ^ k ≠ 0 := Nat.mul_ne_zero h (Nat.ne_of_gt (pow_pos' k))
  apply Nat.le_antisymm
  · have : m * 2 ^ k < 2 ^ (m.log2 + k + 1) := by
      rw [show m.log2 + k + 1 = (m.log2 + 1) + k by omega, Nat.pow_add]
      exact Nat.mul_lt_mul_of_pos_right h2 (pow_pos' k)
    have := (Nat.log2_lt hne).2 this
    omega
  · rw [Nat.le_log2 hne, Nat.pow_add]
    exact Nat.mul_le_mul_right _ h1
/-- What is cut is at most one more than the quotient. -/
theorem cut_le (s : Bool) (n drop : Nat) : Ieee.Toward.even.cut s n drop ≤ n / 2 ^ min drop (n.log2 + 2) + 1 := by
  unfold Ieee.Toward.cut
  simp only [shl_eq, Nat.one_mul]
  generalize n / 2 ^ min drop (n.log2 + 2) = q
  have : ∀ b : Bool, q + b.toNat ≤ q + 1 := fun b => by cases b <;> simp
  exact this _
theorem cut_zero (s : Bool) (n : Nat) : Ieee.Toward.even.cut s n 0 = n := by
  unfold Ieee.Toward.cut
  simp [Nat.mod_one]
theorem cut_exact (s : Bool) (a d : Nat) (ha : a ≠ 0) : Ieee.Toward.even.cut s (a * 2 ^ d) d = a := by
  unfold Ieee.Toward.cut
  have hl := log2_mul_pow ha d
  have hmin : min d ((a * 2 ^ d).log2 + 2) = d := by rw [hl]; omega
  simp only [shl_eq, Nat.one_mul, hmin]
  have h1 : a * 2 ^ d / 2 ^ d = a := Nat.mul_div_cancel _ (pow_pos' d)
  have h2 : a * 2 ^ d % 2 ^ d = 0 := Nat.mul_mod_left _ _
  rw [h1, h2]
  have hp := pow_pos' d
  have : (decide (2 ^ d < 2 * 0) || 2 ^ d == 2 * 0 && a % 2 == 1) = false := by
    have : (2 ^ d == 2 * 0) = false := by rw [beq_eq_false_iff_ne]; omega
    rw [this]; simp
  rw [this]; rfl
/-- the kept digits of a number are at most 2 ^ (fraction bits + 1) -/
theorem kept_le (s : Bool) {m f : Nat} {place last : Int} (h : place + m.log2 - f ≤ last) : Ieee.Toward.even.cut s (m <<< (place - last).toNat) (last - place).toNat ≤ 2 ^ (f + 1) := by
  have hup : m < 2 ^ (m.log2 + 1) := Nat.lt_log2_self
  rcases Int.le_total last place with hle | hle
  · have e1 : (last - place).toNat = 0 := by omega
    rw [e1, cut_zero, shl_eq]
    have : m * 2 ^ (place - last).toNat < 2 ^ (m.log2 + 1) * 2 ^ (place - last).toNat := Nat.mul_lt_mul_of_pos_right hup (pow_pos' _)
    rw [← Nat.pow_add] at this
    have h3 : 2 ^ (m.log2 + 1 + (place - last).toNat) ≤ 2 ^ (f + 1) := Nat.pow_le_pow_right (by decide) (by omega)
    omega
  · have e1 : (place - last).toNat = 0 := by omega
    rw [e1, shl_eq, Nat.pow_zero, Nat.mul_one]
    refine Nat.le_trans (cut_le s m _) ?_
    generalize hd : (last - place).toNat = d
    have hfd : m.log2 + 1 ≤ f + 1 + d := by omega
    -- the quotient is below 2 ^ (f + 1)
    have : m / 2 ^ min d (m.log2 + 2) < 2 ^ (f + 1) := by
      rw [Nat.div_lt_iff_lt_mul (pow_pos' _), ← Nat.pow_add]
      exact Nat.lt_of_lt_of_le hup (Nat.pow_le_pow_right (by decide) (by omega))
    omega
/-- The rung of a nearest word. -/
theorem nearest_rung (f : Ieee.Format) (s : Bool) {m : Nat} {place : Int} {t : Nat} (h : place + m.log2 ≤ f.leastPlace + f.fractionBits + t) :
    ∃ r, f.nearest s m place = f.word s r ∧ r ≤ (t + 2) * f.binade := by
  unfold Ieee.Format.nearest
  by_cases hm : m = 0
  · rw [if_pos hm]; exact ⟨0, rfl, Nat.zero_le _⟩
  · rw [if_neg hm]
    refine ⟨_, rfl, Nat.le_trans (Nat.min_le_left _ _) ?_⟩
    have hk := kept_le s (m := m) (f := f.fractionBits) (place := place) (last := max (place + (m.log2 : Int) - (f.fractionBits : Int)) f.leastPlace) (Int.le_max_left _ _)
    have hb : 2 ^ (f.fractionBits + 1) = 2 * f.binade := by rw [Nat.pow_succ, Nat.mul_comm]; rfl
    rw [hb] at hk
    have ht : (max (place + (m.log2 : Int) - (f.fractionBits : Int)) f.leastPlace - f.leastPlace).toNat ≤ t := by omega
    have := Nat.mul_le_mul_right f.binade ht
    rw [Nat.add_mul]
    exact Nat.add_le_add this hk
theorem single_word_fin (s : Bool) {r : Nat} (h : r < 2139095040) : (FloatKind.f32.decode (Ieee.single.word s r)).isInfinity = false := by
  have hsw : Ieee.single.signWeight = 2147483648 := by decide
  have hinf : Ieee.single.infRung = 2139095040 := by decide
  have e : Ieee.single.word s r % 2147483648 = r := by
    unfold Ieee.Format.word; rw [hsw]; split <;> omega
  unfold FloatKind.decode FloatKind.format Ieee.Format.read
  simp only [hsw, hinf, e]
  by_cases h1 : r < Ieee.single.binade
  · rw [if_pos h1]; rfl
  · rw [if_neg h1, if_pos h]; rfl
/-- A number below 2 ^ 127 is narrowed to a number. -/
theorem narrow_small (s : Bool) {m : Nat} {e : Int} (h : e + m.log2 ≤ 126) : (FloatKind.f32.decode (FloatKind.f32.encode (.number s m e))).isInfinity = false := by
  have hlp : Ieee.single.leastPlace = -149 := by decide
  have hfb : Ieee.single.fractionBits = 23 := rfl
  have hb : Ieee.single.binade = 8388608 := by decide
  obtain ⟨r, h1, h2⟩ := nearest_rung Ieee.single s (m := m) (place := e) (t := 252) (by rw [hlp, hfb]; omega)
  show (FloatKind.f32.decode (Ieee.single.nearest s m e)).isInfinity = false
  rw [h1]
  exact single_word_fin s (by rw [hb] at h2; omega)
theorem decode_double_bound {x : Nat} {s : Bool} {m : Nat} {e : Int} (h : FloatKind.f64.decode x = .number s m e) : m < 2 ^ 53 ∧ -1074 ≤ e ∧ (e = -1074 ∨ 2 ^ 52 ≤ m) ∧ e ≤ 971 := by
  have hsw : FloatKind.f64.format.signWeight = 9223372036854775808 := by decide
  have hinf : FloatKind.f64.format.infRung = 9218868437227405312 := by decide
  have hbin : FloatKind.f64.format.binade = 4503599627370496 := by decide
  have hlp : FloatKind.f64.format.leastPlace = -1074 := by decide
  unfold FloatKind.decode Ieee.Format.read at h
  simp only [hsw, hinf, hbin, hlp] at h
  split at h
  · cases h; omega
  · split at h
    · cases h
      have : x % 9223372036854775808 / 4503599627370496 ≤ 2046 := by omega
      have : 1 ≤ x % 9223372036854775808 / 4503599627370496 := by omega
      omega
    · split at h <;> cases h
/-- a double word's number is below 2 ^ (t + 1) if its rung is below .. -/
theorem decode_word_double (s : Bool) {r : Nat} (hr : r < 9218868437227405312) : ∃ m e, FloatKind.f64.decode (Ieee.double.word s r) = .number s m e ∧ e + m.log2 ≤ -1074 + 52 + (r / 4503599627370496 : Nat) := by
  have hsw : Ieee.double.signWeight = 9223372036854775808 := by decide
  have hinf : Ieee.double.infRung = 9218868437227405312 := by decide
  have hbin : Ieee.double.binade = 4503599627370496 := by decide
  have hlp : Ieee.double.leastPlace = -1074 := by decide
  have hw := double_word s (r := r) (by omega)
  have hm : Ieee.double.word s r % 9223372036854775808 = r := by have := hw.2; unfold rng at this; rwa [hsw] at this
  have hs : (Ieee.double.word s r / 9223372036854775808 % 2 == 1) = s := by have := hw.1; unfold sgn at this; rwa [hsw] at this
  unfold FloatKind.decode FloatKind.format Ieee.Format.read
  simp only [hsw, hinf, hbin, hlp, hm, hs]
  by_cases h1 : r < 4503599627370496
  · rw [if_pos h1]
    refine ⟨r, -1074, rfl, ?_⟩
    have hl : r.log2 ≤ 52 := by
      by_cases h0 : r = 0
      · subst h0; decide
      · have := (Nat.log2_lt h0 (k := 52)).2 h1
        omega
    omega
  · rw [if_neg h1, if_pos hr]
    refine ⟨_, _, rfl, ?_⟩
    have hl : (4503599627370496 + r % 4503599627370496).log2 ≤ 52 := by
      have h2 : 4503599627370496 + r % 4503599627370496 < 2 ^ 53 := by
        have : (2 : Nat) ^ 53 = 9007199254740992 := by decide
        omega
      have := (Nat.log2_lt (by omega)).2 h2
      omega
    have : 1 ≤ r / 4503599627370496 := by omega
    omega
theorem fover_small {x : Nat} {s : Bool} {m : Nat} {e : Int} (hx : FloatKind.f64.decode x = .number s m e) (h : e + m.log2 ≤ 126) : fover .f64 .f32 x = false := by
  unfold fover
  rw [if_neg (by decide), hx]
  exact narrow_small s h
theorem encode_small (s : Bool) {m : Nat} {e : Int} {t : Nat} (h : e + m.log2 ≤ -1074 + 52 + (t : Int)) (ht : t ≤ 2000) : ∃ m' e', FloatKind.f64.decode (FloatKind.f64.encode (.number s m e)) = .number s m' e' ∧ e' + m'.log2 ≤ -1074 + 52 + ((t + 2 : Nat) : Int) := by
  have hlp : Ieee.double.leastPlace = -1074 := by decide
  have hfb : Ieee.double.fractionBits = 52 := rfl
  have hbin : Ieee.double.binade = 4503599627370496 := by decide
  obtain ⟨r, h1, h2⟩ := nearest_rung Ieee.double s (m := m) (place := e) (t := t) (by rw [hlp, hfb]; omega)
  rw [hbin] at h2
  show ∃ m' e', FloatKind.f64.decode (Ieee.double.nearest s m e) = .number s m' e' ∧ _
  rw [h1]
  obtain ⟨m', e', g1, g2⟩ := decode_word_double s (r := r) (by omega)
  refine ⟨m', e', g1, Int.le_trans g2 ?_⟩
  have : r / 4503599627370496 ≤ t + 2 := by omega
  omega
end Go.Proofs.Ytgeflnjjppgooaa

namespace Go.Proofs.Ytgeflnjjppgooaa
open Go.RowKit Go.ChangeShapes Go.WideShapes Go.Deep
section
variable {H : Type} {enc : TypeId × Value → H} {P : Program}
def parB (P : Program) (ts : List TypeId) : Bool := ts.all fun t => P.readableRec t && decide (t < P.types.size)
theorem trodAll_below {W W' : World} (hl : laidOutB P = true) (hb : Below W.heap.size W W') {sp : Nat → Bool} : ∀ {ts : List TypeId} {vs : List Value} {ds : List (DataW H)} {ps : List MemPlace}, parB P ts = true → DataW.TrodAll enc P W 0 (fun _ => true) true ts vs ds ps →
    (∀ x ∈ ps, x.block < W.heap.size) → (∀ x ∈ ps, sp x.block = true) → DataW.TrodAll enc P W' 0 sp true ts vs ds ps
  | [], _, _, _, _, h, _, _ => by
    obtain ⟨rfl, rfl, rfl⟩ := trodAll_nil h
    exact trodAll_mk0
  | t :: ts, _, _, _, hp, h, hlt, hs => by
    obtain ⟨v, vs, d, ds, p, q, rfl, rfl, rfl, h1, h2⟩ := trodAll_cons h
    simp only [parB, List.all_cons, Bool.and_eq_true, decide_eq_true_eq] at hp
    refine ⟨p, q, WideElems.Trod_stays hl hp.1.1 hp.1.2 h1 (fun x hx => hb.same (hlt x (List.mem_append_left _ hx))) (fun x hx => hs x (List.mem_append_left _ hx)), ?_, rfl⟩
    exact trodAll_below hl hb (by simpa [parB] using hp.2) h2 (fun x hx => hlt x (List.mem_append_right _ hx)) (fun x hx => hs x (List.mem_append_right _ hx))
/-- A law that only reads: true, and each argument reads as it did. -/
theorem law_post {f : Func} {s : ChangeSpec} {fresh handsOn again : Bool} {W W' : World} {args : Array Value} {ds gs : List (DataW H)} {before : List MemPlace} {t : TypeId}
    (hl : laidOutB P = true) (hpar : parB P f.params.toList = true) (hrt : f.resultTypes = #[t]) (ht : P.underlying t = some .bool) (hvars : s.vars = [])
    (hfn : s.fn H (ds ++ gs) = { results := [.lit (.bool true)], args := ds })
    (hW : DataW.Whole enc P f.params.toList s.vars false W args.toList ds gs before) (hb : Below W.heap.size W W') : s.post enc P f false fresh handsOn again W args (.bool true) W' := by
  have hW' := hW
  obtain ⟨p, q, hA, hV, rfl, hfz, hnd⟩ := hW'
  rw [hvars] at hV
  obtain ⟨rfl, rfl⟩ := trodVars_none hV
  have hlt : ∀ x ∈ p, x.block < W.heap.size := fun x hx => by simpa using hW.lt x (by simpa using hx)
  have hres : ∀ (b : Nat) (sp : Nat → Bool) (hd : Bool), DataW.TrodAll enc P W' b sp hd f.resultTypes.toList ((Value.bool true).resultList f.resultTypes.size) (s.fn H (ds ++ [])).results [] := by
    intro b sp hd
    rw [hfn, hrt]
    exact trodAll_mk1 (shut_bool ht true)
  have hargs : ∀ sp : Nat → Bool, (∀ x ∈ p, sp x.block = true) → DataW.TrodAll enc P W' 0 sp true f.params.toList args.toList (s.fn H (ds ++ [])).args p := by
    intro sp hs
    rw [hfn]
    exact trodAll_below hl hb hpar hA hlt hs
  have hvs : ∀ sp : Nat → Bool, DataW.TrodVars enc P W' sp s.vars (s.fn H (ds ++ [])).vars [] := by
    intro sp
    rw [hvars, hfn]
    rfl
  refine ⟨ds, [], _, [], p, [], hW, hres _ _ _, hargs _ (fun x hx => by simpa using hlt x hx), hvs _, hb.frame _, fun _ => ?_⟩
  refine ⟨ok_one hrt rfl (okWide_bool_mk ht true), _, _, ([] ++ p) ++ [], ⟨[] ++ p, [], trodAll_append (hargs _ (fun _ _ => rfl)) (hres _ _ _), hvs _, rfl, ?_, fun h => by cases h⟩, ?_⟩
  · intro b off hp
    have hp' : MemPlace.cell b off ∈ p := by simpa using hp
    rw [hb.frozen (p := ⟨b, off, none⟩) (hlt _ hp')]
    exact hfz b off (by simpa using hp')
  · intro x hx _
    simpa using hx
end
end Go.Proofs.Ytgeflnjjppgooaa

namespace Go.Proofs.Ytgeflnjjppgooaa
open Go.RowKit
def hd (f : Nat → Option Addr × Nat) (xss : List (List Nat)) : List Value := (List.range xss.length).map fun i => .slice (f i).1 (xss.getD i []).length (f i).2
def rents (t : TypeId) (f : Nat → Option Addr × Nat) (xss : List (List Nat)) : List Ent := (List.range xss.length).map fun i => ⟨(f i).1, fl (xss.getD i []), (f i).2 * 1, t⟩
theorem hd_length (f : Nat → Option Addr × Nat) (xss : List (List Nat)) : (hd f xss).length = xss.length := by simp [hd]
theorem hd_get {f : Nat → Option Addr × Nat} {xss : List (List Nat)} {k : Nat} (h : k < xss.length) : (hd f xss)[k]? = some (.slice (f k).1 (xss.getD k []).length (f k).2) := by
  simp [hd, h]
theorem rents_mem {t : TypeId} {f : Nat → Option Addr × Nat} {xss : List (List Nat)} {i : Nat} (h : i < xss.length) : (⟨(f i).1, fl (xss.getD i []), (f i).2 * 1, t⟩ : Ent) ∈ rents t f xss := by
  unfold rents
  exact List.mem_map.2 ⟨i, by simpa using h, rfl⟩
/-- Each row's cells lie where its header says. -/
def Rws (w : World) (f : Nat → Option Addr × Nat) (xss : List (List Nat)) : Prop := ∀ i, i < xss.length → Cl w (f i).1 (fl (xss.getD i []))
theorem Rws.below {w w' : World} {f : Nat → Option Addr × Nat} {xss : List (List Nat)} (h : Rws w f xss) (hb : Below w.heap.size w w') : Rws w' f xss := fun i hi => (h i hi).below hb
theorem Rws.root {w0 w : World} {O : List Ent} {f : Nat → Option Addr × Nat} {xss : List (List Nat)} (h : Rws w0 f xss) (hw : Hp w0 O w) : Rws w f xss := h.below hw.below
inductive RowsIn : List Ent → TypeId → (Nat → Option Addr × Nat) → List (List Nat) → Prop
  | here {t : TypeId} {f : Nat → Option Addr × Nat} {xss : List (List Nat)} {O : List Ent} : RowsIn (rents t f xss ++ O) t f xss
  | last {t : TypeId} {f : Nat → Option Addr × Nat} {xss : List (List Nat)} : RowsIn (rents t f xss) t f xss
  | there {t : TypeId} {f : Nat → Option Addr × Nat} {xss : List (List Nat)} {e : Ent} {O : List Ent} : RowsIn O t f xss → RowsIn (e :: O) t f xss
  | thereS {t : TypeId} {f : Nat → Option Addr × Nat} {xss : List (List Nat)} {S O : List Ent} : RowsIn O t f xss → RowsIn (S ++ O) t f xss
theorem RowsIn.mem {O : List Ent} {t : TypeId} {f : Nat → Option Addr × Nat} {xss : List (List Nat)} (h : RowsIn O t f xss) : ∀ i, i < xss.length → (⟨(f i).1, fl (xss.getD i []), (f i).2 * 1, t⟩ : Ent) ∈ O := by
  induction h with
  | here => exact fun i hi => List.mem_append_left _ (rents_mem hi)
  | last => exact fun i hi => rents_mem hi
  | there _ ih => exact fun i hi => List.mem_cons_of_mem _ (ih i hi)
  | thereS _ ih => exact fun i hi => List.mem_append_right _ (ih i hi)
theorem Rws.own {w0 w : World} {O : List Ent} {t : TypeId} {f : Nat → Option Addr × Nat} {xss : List (List Nat)} (h : RowsIn O t f xss) (hw : Hp w0 O w) : Rws w f xss := fun i hi => Sees.own (h.mem i hi) w hw
/-- The address and the capacity of one row more. -/
def upd (f : Nat → Option Addr × Nat) (k : Nat) (p : Option Addr × Nat) : Nat → Option Addr × Nat := fun i => if i = k then p else f i
theorem hd_snoc (f : Nat → Option Addr × Nat) (xss : List (List Nat)) (p : Option Addr × Nat) (xs : List Nat) : hd f xss ++ [.slice p.1 xs.length p.2] = hd (upd f xss.length p) (xss ++ [xs]) := by
  apply List.ext_getElem?
  intro i
  rcases Nat.lt_trichotomy i xss.length with h | h | h
  · rw [List.getElem?_append_left (by simpa [hd_length] using h), hd_get h, hd_get (by simp; omega)]
    simp [upd, Nat.ne_of_lt h, List.getD, List.getElem?_append_left h]
  · subst h
    rw [List.getElem?_append_right (by simp [hd_length]), hd_get (by simp), hd_length]
    simp [upd, List.getD]
  · rw [List.getElem?_eq_none (by simp [hd_length]; omega), List.getElem?_eq_none (by simp [hd_length]; omega)]
theorem rents_snoc (t : TypeId) (f : Nat → Option Addr × Nat) (xss : List (List Nat)) (p : Option Addr × Nat) (xs : List Nat) : rents t f xss ++ [⟨p.1, fl xs, p.2 * 1, t⟩] = rents t (upd f xss.length p) (xss ++ [xs]) := by
  apply List.ext_getElem?
  intro i
  have hl : ∀ f xss, (rents t f xss).length = xss.length := fun f xss => by simp [rents]
  have hg : ∀ (f : Nat → Option Addr × Nat) (xss : List (List Nat)) (k : Nat), k < xss.length → (rents t f xss)[k]? = some ⟨(f k).1, fl (xss.getD k []), (f k).2 * 1, t⟩ := fun f xss k h => by simp [rents, h]
  rcases Nat.lt_trichotomy i xss.length with h | h | h
  · rw [List.getElem?_append_left (by simpa [hl] using h), hg _ _ _ h, hg _ _ _ (by simp; omega)]
    simp [upd, Nat.ne_of_lt h, List.getD, List.getElem?_append_left h]
  · subst h
    rw [List.getElem?_append_right (by simp [hl]), hg _ _ _ (by simp), hl]
    simp [upd, List.getD]
  · rw [List.getElem?_eq_none (by simp [hl]; omega), List.getElem?_eq_none (by simp [hl]; omega)]
/-- The header list of which the first k are made, the others nil. -/
def hdk (f : Nat → Option Addr × Nat) (xss : List (List Nat)) (k : Nat) : List Value := hd f (xss.take k) ++ List.replicate (xss.length - k) (.slice none 0 0)
theorem hdk_length {f : Nat → Option Addr × Nat} {xss : List (List Nat)} {k : Nat} (h : k ≤ xss.length) : (hdk f xss k).length = xss.length := by
  simp [hdk, hd_length]; omega
theorem hdk_zero (f : Nat → Option Addr × Nat) (xss : List (List Nat)) : hdk f xss 0 = List.replicate xss.length (.slice none 0 0) := by simp [hdk, hd]
theorem hdk_all (f : Nat → Option Addr × Nat) (xss : List (List Nat)) : hdk f xss xss.length = hd f xss := by simp [hdk]
theorem take_snoc {xss : List (List Nat)} {k : Nat} (h : k < xss.length) : xss.take k ++ [xss.getD k []] = xss.take (k + 1) := by
  rw [List.take_succ_eq_append_getElem h]; simp [h]
theorem hdk_set {f : Nat → Option Addr × Nat} {xss : List (List Nat)} {k : Nat} (h : k < xss.length) (p : Option Addr × Nat) : (hdk f xss k).set k (.slice p.1 (xss.getD k []).length p.2) = hdk (upd f k p) xss (k + 1) := by
  have hlk : (xss.take k).length = k := by rw [List.length_take]; omega
  unfold hdk
  rw [← take_snoc h]
  have := hd_snoc f (xss.take k) p (xss.getD k [])
  rw [hlk] at this
  rw [← this]
  obtain ⟨m, hm⟩ : ∃ m, xss.length - k = m + 1 := ⟨xss.length - k - 1, by omega⟩
  rw [hm, List.replicate_succ, List.set_append_right _ _ (by rw [hd_length, hlk]; omega), hd_length, hlk, Nat.sub_self, List.set_cons_zero, show xss.length - (k + 1) = m by omega]
  simp
theorem rents_take {t : TypeId} {f : Nat → Option Addr × Nat} {xss : List (List Nat)} {k : Nat} (h : k < xss.length) (p : Option Addr × Nat) : rents t f (xss.take k) ++ [⟨p.1, fl (xss.getD k []), p.2 * 1, t⟩] = rents t (upd f k p) (xss.take (k + 1)) := by
  have hlk : (xss.take k).length = k := by rw [List.length_take]; omega
  have := rents_snoc t f (xss.take k) p (xss.getD k [])
  rw [hlk] at this
  rw [this, take_snoc h]
theorem cycle_nils (m : Nat) : cycle [Value.slice none 0 0] m = List.replicate m (.slice none 0 0) := by
  induction m with
  | zero => rfl
  | succ m ih => simp [cycle, ih, List.replicate_succ]
theorem hd_scal (f : Nat → Option Addr × Nat) (xss : List (List Nat)) : (hd f xss).all scal = true := by simp [hd, scal]
def Cans (xss : List (List Nat)) : Prop := ∀ xs ∈ xss, ∀ x ∈ xs, Can .f32 x
theorem Cans.row {xss : List (List Nat)} (h : Cans xss) {k : Nat} (hk : k < xss.length) : ∀ x ∈ xss.getD k [], Can .f32 x := h _ (by simp [hk])
def sumK (xss : List (List Nat)) (k : Nat) : Nat := ((xss.take k).map List.length).sum
def bulk (xss : List (List Nat)) : Nat := xss.length + sumK xss xss.length
theorem sumK_zero (xss : List (List Nat)) : sumK xss 0 = 0 := by simp [sumK]
theorem sumK_succ {xss : List (List Nat)} {k : Nat} (h : k < xss.length) : sumK xss (k + 1) = sumK xss k + (xss.getD k []).length := by
  unfold sumK
  rw [← take_snoc h]
  simp
theorem sumK_mono (xss : List (List Nat)) : ∀ (k m : Nat), k ≤ m → m ≤ xss.length → sumK xss k ≤ sumK xss m
  | k, 0, h, _ => by rw [show k = 0 by omega]; exact Nat.le_refl _
  | k, m + 1, h, hm => by
    by_cases e : k = m + 1
    · rw [e]; exact Nat.le_refl _
    · rw [sumK_succ (by omega)]
      have := sumK_mono xss k m (by omega) (by omega)
      omega
theorem bulk_row {xss : List (List Nat)} {k : Nat} (h : k < xss.length) : (xss.getD k []).length + xss.length ≤ bulk xss := by
  unfold bulk
  have h1 := sumK_mono xss (k + 1) xss.length (by omega) (Nat.le_refl _)
  rw [sumK_succ h] at h1
  omega
section
variable {P : Program} {n : Nat} {w0 : World} {O : List Ent} {E : Env} {o : Oper}
def rdRes (tmps : Array Value) : ResultVar → Sem Value
  | .tmp t => pure (tmps.getD t undef)
  | .cell c t => do loadVar t (← asAddr (tmps.getD c undef))
theorem results_rd (fn : Func) (tmps : Array Value) : results fn tmps = (do let vs ← fn.results.mapM (rdRes tmps); pure (if h : vs.size = 1 then vs[0] else .tuple vs)) := by
  unfold results
  congr 1
def RV (n : Nat) (P : Program) (w0 : World) (O : List Ent) (E : Env) (r : ResultVar) (u : Value) : Prop :=
  ∀ (a : Act) (w : World), Models n E a → Hp w0 O w → ∃ v, (rdRes a.tmps r).run P w = .ok v w ∧ cn1 v = u
theorem rv_cellS {c : Tmp} {t : TypeId} {a : Option Addr} {k z : Nat} {us cs : List Value} {fs : Array Field} (hu : E.get c = some (.pointer (some (adr a k)))) (ht : P.underlying t = some (.struct fs)) (hz : (P.info? t).map (·.size) = some z) (hs : Sees w0 O a us)
    (hcs : (us.drop k).take z = cs) (hl : cs.length = z) (hsc : cs.all scal = true) : RV n P w0 O E (.cell c t) (.agg cs.toArray) := by
  intro ac w ha hw
  obtain ⟨v, h1, h2⟩ := ha.get c _ hu
  have e1 := cn_pointer h2
  obtain ⟨vs, g1, g2, g3⟩ := (hs w hw).cellsN cs k (fun j u hj => by
    subst hcs
    have hj' : j < z := by
      have := (List.getElem?_eq_some_iff.1 hj).1
      simp at this; omega
    rw [List.getElem?_take, if_pos hj', List.getElem?_drop] at hj
    exact hj)
  obtain ⟨h4, h5⟩ := map_cn0_of g3 hsc
  have hload := run_loadCells_adr (P := P) (w := w) (a := a) (k := k) vs g2
  rw [g1, hl] at hload
  refine ⟨.agg vs.toArray, ?_, by simp [cn1, h4]⟩
  simp [rdRes, h1, e1, asAddr, loadVar, aggB ht, info_size hz, hload]
inductive RVs (n : Nat) (P : Program) (w0 : World) (O : List Ent) (E : Env) : List ResultVar → List Value → Prop
  | nil : RVs n P w0 O E [] []
  | cons {r : ResultVar} {u : Value} {rs : List ResultVar} {us : List Value} : RV n P w0 O E r u → RVs n P w0 O E rs us → RVs n P w0 O E (r :: rs) (u :: us)
theorem RVs.run {rs : List ResultVar} {us : List Value} (h : RVs n P w0 O E rs us) {a : Act} {w : World} (ha : Models n E a) (hw : Hp w0 O w) :
    ∃ vs : List Value, (rs.mapM (m := Sem) (rdRes a.tmps)).run P w = .ok vs w ∧ vs.map cn1 = us := by
  induction h with
  | nil => exact ⟨[], rfl, rfl⟩
  | cons hr _ ih =>
    obtain ⟨v, h1, h2⟩ := hr a w ha hw
    obtain ⟨vs, h3, h4⟩ := ih
    exact ⟨v :: vs, by simp only [List.mapM_cons, Sem.run_bind, h1, Result.andThen_ok, h3, Sem.run_pure], by simp [h2, h4]⟩
theorem run_results {fn : Func} {rs : List ResultVar} {us : List Value} (hr : fn.results = rs.toArray) (h : RVs n P w0 O E rs us) {a : Act} {w : World} (ha : Models n E a) (hw : Hp w0 O w) :
    ∃ vs : List Value, (results fn a.tmps).run P w = .ok (if h : vs.toArray.size = 1 then vs.toArray[0] else .tuple vs.toArray) w ∧ vs.map cn1 = us := by
  obtain ⟨vs, h1, h2⟩ := h.run ha hw
  refine ⟨vs, ?_, h2⟩
  rw [results_rd, hr, Array.mapM_eq_mapM_toList, Sem.run_bind, Sem.run_map]
  rw [h1]
  rfl
end
end Go.Proofs.Ytgeflnjjppgooaa

namespace Go.Proofs.Ytgeflnjjppgooaa
def isSide (m n : Nat) : Bool := decide (1 ≤ n) && decide (n * n = m)
def side (m : Nat) : Nat := ((List.range 9).find? (isSide m)).getD 0
theorem side_le (m : Nat) : side m ≤ 8 := by
  unfold side
  cases h : (List.range 9).find? (isSide m) with
  | none => simp
  | some n => have := List.mem_of_find?_eq_some h; simp at this ⊢; omega
theorem side_mul {m : Nat} (h : side m ≠ 0) : side m * side m = m := by
  unfold side at *
  cases e : (List.range 9).find? (isSide m) with
  | none => rw [e] at h; simp at h
  | some n =>
    have := List.find?_some e
    simp only [isSide, Bool.and_eq_true, decide_eq_true_eq] at this
    simpa using this.2
theorem side_of {m k : Nat} (h1 : 1 ≤ k) (h2 : k ≤ 8) (h : k * k = m) : side m = k := by
  have hs : side m ≠ 0 := by
    unfold side
    cases e : (List.range 9).find? (isSide m) with
    | none =>
      have := List.find?_eq_none.1 e k (by simp; omega)
      simp [isSide, h1, h] at this
    | some n =>
      have := List.find?_some e
      simp only [isSide, Bool.and_eq_true, decide_eq_true_eq] at this
      simp only [Option.getD_some]
      omega
  have := side_mul hs
  rw [← h] at this ⊢
  rw [h]
  exact Nat.mul_self_inj.1 (by rw [h] at this; rw [this, h])
theorem side_none {m : Nat} (h : ∀ j, 1 ≤ j → j < 9 → j * j ≠ m) : side m = 0 := by
  apply Classical.byContradiction
  intro hs
  have h2 := side_le m
  exact h (side m) (by omega) (by omega) (side_mul hs)
def fwdS (l : List Nat) (n j : Nat) (y : Nat → Nat) (s : Nat) : Nat → Nat
  | 0 => s
  | k + 1 => fop .sub .f32 (fwdS l n j y s k) (fop .mul .f32 (l.getD (j * n + k) 0) (y k))
def fwdF (l : List Nat) (n : Nat) (b : List Nat) : Nat → Nat → Nat
  | 0, t => b.getD t 0
  | j + 1, t => if t = j then fop .quo .f32 (fwdS l n j (fwdF l n b j) (b.getD j 0) j) (l.getD (j * n + j) 0) else fwdF l n b j t
def bwdS (l : List Nat) (n j : Nat) (x : Nat → Nat) (s : Nat) : Nat → Nat
  | 0 => s
  | k + 1 => fop .sub .f32 (bwdS l n j x s k) (fop .mul .f32 (l.getD ((j + 1 + k) * n + j) 0) (x (j + 1 + k)))
def bwdF (l : List Nat) (n : Nat) (y : Nat → Nat) : Nat → Nat → Nat
  | 0, t => y t
  | i + 1, t => if t = n - 1 - i then fop .quo .f32 (bwdS l n (n - 1 - i) (bwdF l n y i) (y (n - 1 - i)) i) (l.getD ((n - 1 - i) * n + (n - 1 - i)) 0) else bwdF l n y i t
theorem fwdF_ge (l : List Nat) (n : Nat) (b : List Nat) : ∀ (j t : Nat), j ≤ t → fwdF l n b j t = b.getD t 0
  | 0, _, _ => rfl
  | j + 1, t, h => by rw [fwdF, if_neg (by omega), fwdF_ge l n b j t (by omega)]
theorem bwdF_lt (l : List Nat) (n : Nat) (y : Nat → Nat) : ∀ (i t : Nat), t + i < n → bwdF l n y i t = y t
  | 0, _, _ => rfl
  | i + 1, t, h => by rw [bwdF, if_neg (by omega), bwdF_lt l n y i t (by omega)]
/-- a round of the backward part, by the number that is done last -/
theorem bwdF_succ (l : List Nat) (n : Nat) (y : Nat → Nat) {j : Nat} (hj : j < n) (t : Nat) : bwdF l n y (n - j) t = if t = j then fop .quo .f32 (bwdS l n j (bwdF l n y (n - (j + 1))) (y j) (n - (j + 1))) (l.getD (j * n + j) 0) else bwdF l n y (n - (j + 1)) t := by
  obtain ⟨i, hi⟩ : ∃ i, n = j + 1 + i := ⟨n - (j + 1), by omega⟩
  have e1 : n - j = i + 1 := by omega
  have e2 : n - (j + 1) = i := by omega
  have e3 : n - 1 - i = j := by omega
  rw [e1, e2, bwdF, e3]
def solve (l b : List Nat) (n : Nat) : List Nat := (List.range n).map (bwdF l n (fwdF l n b n) n)
def solveOk (l b : List Nat) : Bool := decide (side l.length ≠ 0) && decide (b.length = side l.length) && (List.range (side l.length)).all (fun j => !fcmp .eql .f32 (l.getD (j * side l.length + j) 0) 0)
def solveOf (l b : List Nat) : List Nat := if solveOk l b then solve l b (side l.length) else []
theorem solve_length (l b : List Nat) (n : Nat) : (solve l b n).length = n := by simp [solve]
theorem can_fwdF {l b : List Nat} {n : Nat} (hb : ∀ x ∈ b, Can .f32 x) : ∀ (j t : Nat), t < j ∨ t < b.length → Can .f32 (fwdF l n b j t)
  | 0, t, h => by
    have h : t < b.length := by omega
    exact hb _ (getD_mem h)
  | j + 1, t, h => by
    rw [fwdF]
    split
    · exact can_fop _ _ _ _
    · exact can_fwdF hb j t (by omega)
theorem can_bwdF {l : List Nat} {n : Nat} {y : Nat → Nat} : ∀ (i t : Nat), (t < n → Can .f32 (y t)) → t < n → Can .f32 (bwdF l n y i t)
  | 0, t, hy, h => hy h
  | i + 1, t, hy, h => by
    rw [bwdF]
    split
    · exact can_fop _ _ _ _
    · exact can_bwdF i t hy h
theorem can_solve {l b : List Nat} {n : Nat} (hb : ∀ x ∈ b, Can .f32 x) : ∀ y ∈ solve l b n, Can .f32 y := by
  intro y hy
  obtain ⟨t, ht, rfl⟩ := List.mem_map.1 hy
  simp at ht
  exact can_bwdF n t (fun h => can_fwdF hb n t (.inl h)) ht
theorem can_solveOf {l b : List Nat} (hb : ∀ x ∈ b, Can .f32 x) : ∀ y ∈ solveOf l b, Can .f32 y := by
  unfold solveOf
  split
  · exact can_solve hb
  · intro y hy; cases hy
theorem ok_no0 {l b : List Nat} (h : side l.length = 0) : solveOk l b = false := by simp [solveOk, h]
theorem ok_no1 {l b : List Nat} (h : b.length ≠ side l.length) : solveOk l b = false := by simp [solveOk, h]
theorem ok_no2 {l b : List Nat} {j : Nat} (hj : j < side l.length) (h : fcmp .eql .f32 (l.getD (j * side l.length + j) 0) 0 = true) : solveOk l b = false := by
  have : (List.range (side l.length)).all (fun j => !fcmp .eql .f32 (l.getD (j * side l.length + j) 0) 0) = false := by
    rw [Bool.eq_false_iff]
    intro ha
    have := List.all_eq_true.1 ha j (by simpa using hj)
    rw [h] at this
    cases this
  simp only [solveOk, this, Bool.and_false]
theorem ok_yes {l b : List Nat} (h0 : side l.length ≠ 0) (h1 : b.length = side l.length) (h2 : ∀ j, j < side l.length → fcmp .eql .f32 (l.getD (j * side l.length + j) 0) 0 = false) : solveOk l b = true := by
  have : (List.range (side l.length)).all (fun j => !fcmp .eql .f32 (l.getD (j * side l.length + j) 0) 0) = true := by
    rw [List.all_eq_true]
    intro j hj
    rw [h2 j (by simpa using hj)]; rfl
  simp only [solveOk, this, h1, h0, ne_eq, not_false_eq_true, decide_true, Bool.and_true]
theorem solveOf_no {l b : List Nat} (h : solveOk l b = false) : solveOf l b = [] := by simp [solveOf, h]
theorem solveOf_yes {l b : List Nat} (h : solveOk l b = true) : solveOf l b = solve l b (side l.length) := by simp [solveOf, h]
end Go.Proofs.Ytgeflnjjppgooaa

namespace Go.Proofs.Ytgeflnjjppgooaa
open Go.RowKit
theorem fin_num {x : Nat} (h : fin x = true) : fnan .f32 x = false := by
  cases hn : fnan .f32 x
  · rfl
  · exfalso
    have h1 : fop .sub .f32 x x = qn .f32 := by simp [fop, floatBits_nan_left hn]
    unfold fin at h
    rw [h1] at h
    revert h
    decide
theorem order_some {x y : Nat} (hx : fnan .f32 x = false) (hy : fnan .f32 y = false) : ∃ o, FloatKind.f32.format.order x y = some o := by
  have h1 := read_num hx
  have h2 := read_num hy
  unfold Ieee.Format.order
  generalize FloatKind.f32.format.read x = a at h1 ⊢
  generalize FloatKind.f32.format.read y = b at h2 ⊢
  cases a <;> cases b <;> simp [Ieee.Datum.isNaN, Ieee.Datum.order] at h1 h2 ⊢
theorem lss_geq {x : Nat} (h : fin x = true) : fcmp .lss .f32 x 0 = !fcmp .geq .f32 x 0 := by
  obtain ⟨o, ho⟩ := order_some (fin_num h) (show fnan .f32 0 = false by decide)
  simp only [fcmp, ho]
  cases o <;> rfl
def idxI (p : Nat → Bool) : Nat → Int
  | 0 => -1
  | n + 1 => if 0 ≤ idxI p n then idxI p n else if p n then n else -1
theorem idxI_no {p : Nat → Bool} : ∀ {n : Nat}, (∀ j, j < n → p j = false) → idxI p n = -1
  | 0, _ => rfl
  | n + 1, h => by
    have := idxI_no (n := n) (fun j hj => h j (by omega))
    simp [idxI, this, h n (by omega)]
theorem idxI_of {p : Nat → Bool} {k : Nat} (h : ∀ j, j < k → p j = false) (hk : p k = true) : ∀ {n : Nat}, k < n → idxI p n = k
  | 0, h => by omega
  | n + 1, hn => by
    by_cases e : k = n
    · subst e
      simp [idxI, idxI_no h, hk]
    · have := idxI_of h hk (n := n) (by omega)
      simp [idxI, this]
theorem idxI_any (p : Nat → Bool) : ∀ (n : Nat), decide (0 ≤ idxI p n) = (List.range n).any p
  | 0 => rfl
  | n + 1 => by
    have ih := idxI_any p n
    rw [List.range_succ, List.any_append, ← ih]
    simp only [idxI]
    by_cases h : 0 ≤ idxI p n
    · simp [h]
    · rcases Bool.eq_false_or_eq_true (p n) with hp | hp
      · simp [h, hp]
      · simp [h, hp]
theorem any_list (p : Nat → Bool) (xs : List Nat) : (List.range xs.length).any (fun k => p (xs.getD k 0)) = xs.any p := by
  rw [Bool.eq_iff_iff, List.any_eq_true, List.any_eq_true]
  constructor
  · rintro ⟨k, hk, h⟩
    simp only [List.mem_range] at hk
    exact ⟨_, getD_mem hk, h⟩
  · rintro ⟨x, hx, h⟩
    obtain ⟨k, hk, rfl⟩ := List.getElem_of_mem hx
    exact ⟨k, by simpa using hk, by simpa [List.getD, hk] using h⟩
theorem all_list (p : Nat → Bool) (xs : List Nat) : (!decide (0 ≤ idxI (fun k => !p (xs.getD k 0)) xs.length)) = xs.all p := by
  rw [idxI_any, any_list (fun x => !p x)]
  induction xs with
  | nil => rfl
  | cons x xs ih => simp only [List.any_cons, List.all_cons, Bool.not_or, Bool.not_not, ih]
theorem all_getD {p : Nat → Bool} {xs : List Nat} : xs.all p = true ↔ ∀ k, k < xs.length → p (xs.getD k 0) = true := by
  rw [List.all_eq_true]
  constructor
  · intro h k hk
    exact h _ (getD_mem hk)
  · intro h x hx
    obtain ⟨k, hk, rfl⟩ := List.getElem_of_mem hx
    have := h k hk
    simpa [List.getD, hk] using this
theorem all_no {p : Nat → Bool} {xs : List Nat} {k : Nat} (hk : k < xs.length) (h : p (xs.getD k 0) = false) : xs.all p = false := by
  rw [Bool.eq_false_iff]
  intro ha
  rw [all_getD.1 ha k hk] at h
  cases h
theorem idxI_t {p : Nat → Bool} {n : Nat} (h : decide (0 ≤ idxI p n) = true) : ∃ k, k < n ∧ p k = true := by
  rw [idxI_any, List.any_eq_true] at h
  obtain ⟨k, hk, h⟩ := h
  exact ⟨k, by simpa using hk, h⟩
theorem idxI_f {p : Nat → Bool} {n : Nat} (h : decide (0 ≤ idxI p n) = false) : ∀ k, k < n → p k = false := by
  intro k hk
  cases hp : p k
  · rfl
  · rw [idxI_any, List.any_eq_false] at h
    exact absurd hp (h k (by simpa using hk))
theorem icmp_eqN (a b : Nat) : icmp .eql (a : Int) (b : Int) = decide (a = b) := by
  rw [Bool.eq_iff_iff]
  constructor
  · intro h; have := ic_eql h; rw [decide_eq_true_eq]; omega
  · intro h; rw [decide_eq_true_eq] at h; subst h; simp [icmp]
def rowOk (xs : List Nat) (n : Nat) : Bool := xs.all fin && decide (xs.length = n)
def ValidP (xss : List (List Nat)) (ws gs : List Nat) : Prop :=
  1 ≤ xss.length ∧ xss.length ≤ 48 ∧ gs.length = xss.length ∧ ws.length = xss.length ∧ ws.all fin = true ∧
  (∀ i, i < xss.length → (xss.getD i []).length = (xss.getD 0 []).length ∧ (xss.getD i []).all fin = true ∧ least (gs.getD i 0) = true) ∧ 1 ≤ (xss.getD 0 []).length ∧ (xss.getD 0 []).length ≤ 8
noncomputable def validD (xss : List (List Nat)) (ws gs : List Nat) : Bool := @decide (ValidP xss ws gs) (Classical.propDecidable _)
theorem valid_yes {xss : List (List Nat)} {ws gs : List Nat} (h : ValidP xss ws gs) : validD xss ws gs = true := by
  unfold validD; exact @decide_eq_true _ (Classical.propDecidable _) h
theorem valid_no {xss : List (List Nat)} {ws gs : List Nat} (h : ¬ ValidP xss ws gs) : validD xss ws gs = false := by
  unfold validD; exact @decide_eq_false _ (Classical.propDecidable _) h
theorem valid_is {xss : List (List Nat)} {ws gs : List Nat} (h : validD xss ws gs = true) : ValidP xss ws gs := by
  unfold validD at h; exact @of_decide_eq_true _ (Classical.propDecidable _) h
theorem rowOk_t {xs : List Nat} {n : Nat} (h : rowOk xs n = true) : xs.length = n ∧ xs.all fin = true := by
  unfold rowOk at h
  simp only [Bool.and_eq_true, decide_eq_true_eq] at h
  exact ⟨h.2, h.1⟩
theorem rowOk_f {xs : List Nat} {n : Nat} (h : rowOk xs n = false) : ¬ (xs.length = n ∧ xs.all fin = true) := by
  rintro ⟨h1, h2⟩
  rw [rowOk, h2, decide_eq_true h1] at h
  cases h
section
variable {P : Program} {n : Nat} {w0 : World} {O : List Ent} {E : Env} {o : Oper}
end
end Go.Proofs.Ytgeflnjjppgooaa

namespace Go.Proofs.Ytgeflnjjppgooaa
open Go.RowKit
theorem ext_bits32 {P : Program} (vs : Array Value) (w : World) {x : Nat} (hn : fnan .f32 x = false) (h : vs.toList.map cn = [.float .f32 x]) : ∃ v w', (Extern.MathFloatBits.float32bits vs).run P w = .ok v w' ∧ cn v = .int .u32 x ∧ Below w.heap.size w w' := by
  obtain ⟨b, rfl, hb⟩ := one_arg h
  have hb' : b = x := by
    rw [← hb, fnan_cb] at hn
    rw [← hb, cb_num hn]
  subst hb'
  exact ⟨.int .u32 b, w, rfl, rfl, Below.refl _ _⟩
end Go.Proofs.Ytgeflnjjppgooaa
