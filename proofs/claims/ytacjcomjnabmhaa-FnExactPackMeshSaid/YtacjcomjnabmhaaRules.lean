/- The rules of single operations: registers, numbers, floats, memory, calls. -/
import Derived.Test.YtacjcomjnabmhaaFloat
namespace Go.Proofs.Ytacjcomjnabmhaa
open Go.RowKit

/-! ### three kinds of operations -/
/-- quiet: one canonical value; nothing that was there turns -/
def YQ (P : Program) (w0 : World) (O : List Ent) (E : Env) (o : Oper) (u : Value) : Prop :=
  ∀ ρ w, Ev E o.op ρ → Hp w0 O w → ResOk P (fun v w' => cn v = u ∧ Below w.heap.size w w') ((execOp ρ o).run P w)
/-- .. in every world whatever -/
def YR (P : Program) (E : Env) (o : Oper) (u : Value) : Prop :=
  ∀ ρ w, Ev E o.op ρ → ResOk P (fun v w' => cn v = u ∧ Below w.heap.size w w') ((execOp ρ o).run P w)
/-- something new is made beside what is there -/
def YN (P : Program) (w0 : World) (O : List Ent) (E : Env) (o : Oper) {X : Type} (u : X → Value) (N : X → List Ent) : Prop :=
  ∀ ρ w, Ev E o.op ρ → Hp w0 O w → ResOk P (fun v w' => ∃ x, cn v = u x ∧ Below w.heap.size w w' ∧ (∀ e ∈ N x, e.at w.heap.size w') ∧ (N x).Pairwise Ent.apart) ((execOp ρ o).run P w)
/-- what the call owns turns -/
def YC (P : Program) (w0 : World) (O : List Ent) (E : Env) (o : Oper) {X : Type} (u : X → Value) (O' : X → List Ent) : Prop :=
  ∀ ρ w F, Ev E o.op ρ → Hp w0 (F ++ O) w → ResOk P (fun v w' => ∃ x, cn v = u x ∧ Hp w0 (F ++ O' x) w') ((execOp ρ o).run P w)

section
variable {P : Program} {n : Nat} {w0 : World} {O : List Ent} {E : Env} {Q : Exit → Act → World → Prop} {ops : Array Oper} {o : Oper} {rest : List Oper} {d : Nat}

theorem YR.q {u : Value} (h : YR P E o u) : YQ P w0 O E o u := fun ρ w hE _ => h ρ w hE

/-- The operation comes to its turn: no guard, or one that is met. -/
def Wants (ops : Array Oper) (E : Env) (o : Oper) : Prop :=
  o.guard = none ∨ ∃ j b t, o.guard = some (j, b) ∧ (ops[j]?).bind (·.dst) = some t ∧ E.get t = some (.bool b)

theorem Wants.wanted {a : Act} (h : Wants ops E o) (ha : Models n E a) : Region.wanted o (yielded ops a.tmps) = true := by
  rcases h with h | ⟨j, b, t, h1, h2, h3⟩
  · simp [Region.wanted, h]
  · simp [Region.wanted, h1, yielded_of ha h2 h3]

theorem VL.stepG {R : Value → World → Prop} (hg : Wants ops E o) (hy : YG P w0 O E o R)
    (h : ∀ a w v, Models n E a → R (cn v) w → wpList P ops Q rest (a.put o.dst v) w) : VL P n w0 O E ops Q (o :: rest) := by
  intro a w ha hw
  refine wpList_step fun K hK => ?_
  rw [if_pos (hg.wanted ha)]
  unfold Oper.wp
  exact (hy a.eval w (ha.ev _) hw).upon fun v w' hv => hK _ _ (h a w' v ha hv)

theorem VL.q {u : Value} (hg : Wants ops E o) (hd : o.dst = some d) (hdn : d < n) (hy : YQ P w0 O E o u) (h : VL P n w0 O ((d, u) :: E) ops Q rest) : VL P n w0 O E ops Q (o :: rest) := by
  intro a w ha hw
  refine wpList_step fun K hK => ?_
  rw [if_pos (hg.wanted ha)]
  unfold Oper.wp
  refine (hy a.eval w (ha.ev _) hw).upon fun v w' hv => hK _ _ ?_
  exact h _ _ (by rw [hd]; exact ha.put hdn hv.1) (hw.ext hv.2)

theorem VL.r {u : Value} (hg : Wants ops E o) (hd : o.dst = some d) (hdn : d < n) (hy : YR P E o u) (h : VL P n w0 O ((d, u) :: E) ops Q rest) : VL P n w0 O E ops Q (o :: rest) := VL.q hg hd hdn hy.q h

theorem VL.new {X : Type} {u : X → Value} {N : X → List Ent} (hg : Wants ops E o) (hd : o.dst = some d) (hdn : d < n) (hy : YN P w0 O E o u N) (h : ∀ x, VL P n w0 (N x ++ O) ((d, u x) :: E) ops Q rest) : VL P n w0 O E ops Q (o :: rest) := by
  intro a w ha hw
  refine wpList_step fun K hK => ?_
  rw [if_pos (hg.wanted ha)]
  unfold Oper.wp
  refine (hy a.eval w (ha.ev _) hw).upon fun v w' ⟨x, h1, h2, h3, h4⟩ => hK _ _ ?_
  exact h x _ _ (by rw [hd]; exact ha.put hdn h1) (hw.news h2 h3 h4)

theorem VL.new1 {X : Type} {u : X → Value} {N : X → Ent} (hg : Wants ops E o) (hd : o.dst = some d) (hdn : d < n) (hy : YN P w0 O E o u (fun x => [N x])) (h : ∀ x, VL P n w0 (N x :: O) ((d, u x) :: E) ops Q rest) : VL P n w0 O E ops Q (o :: rest) := VL.new hg hd hdn hy h

theorem VL.c {X : Type} {u : X → Value} {O' : X → List Ent} (hg : Wants ops E o) (hd : o.dst = some d) (hdn : d < n) (hy : YC P w0 O E o u O') (h : ∀ x, VL P n w0 (O' x) ((d, u x) :: E) ops Q rest) : VL P n w0 O E ops Q (o :: rest) := by
  intro a w ha hw
  refine wpList_step fun K hK => ?_
  rw [if_pos (hg.wanted ha)]
  unfold Oper.wp
  refine (hy a.eval w [] (ha.ev _) hw).upon fun v w' ⟨x, h1, h2⟩ => hK _ _ ?_
  exact h x _ _ (by rw [hd]; exact ha.put hdn h1) h2

/-- .. without a place for a value (a store) -/
theorem VL.s {X : Type} {u : X → Value} {O' : X → List Ent} (hg : Wants ops E o) (hd : o.dst = none) (hy : YC P w0 O E o u O') (h : ∀ x, VL P n w0 (O' x) E ops Q rest) : VL P n w0 O E ops Q (o :: rest) := by
  intro a w ha hw
  refine wpList_step fun K hK => ?_
  rw [if_pos (hg.wanted ha)]
  unfold Oper.wp
  refine (hy a.eval w [] (ha.ev _) hw).upon fun v w' ⟨x, h1, h2⟩ => hK _ _ ?_
  exact h x _ _ (by rw [hd]; exact ha) h2

/-! ### registers -/
theorem Ev.get {op : Op} {ρ : Operand → Value} (h : Ev E op ρ) {x : Operand} {u : Value} (hm : x ∈ op.operands) (hx : E.opd x = some u) : cn (ρ x) = u := h x hm u hx

theorem yr_of {u : Value} (h : ∀ ρ w, Ev E o.op ρ → ∃ v, (execOp ρ o).run P w = .ok (.value v) w ∧ cn v = u) : YR P E o u := fun ρ w hE => by
  obtain ⟨v, h1, h2⟩ := h ρ w hE
  rw [h1]; exact ⟨h2, Below.refl _ _⟩

theorem yr_move {x : Operand} {u : Value} (ho : o.op = .move x) (hx : E.opd x = some u) : YR P E o u := yr_of fun ρ w hE =>
  ⟨ρ x, by simp [execOp, ho], hE.get (by simp [ho, Op.operands]) hx⟩
theorem yr_assign {x : Operand} {u : Value} (ho : o.op = .assign x) (hx : E.opd x = some u) : YR P E o u := yr_of fun ρ w hE =>
  ⟨ρ x, by simp [execOp, ho], hE.get (by simp [ho, Op.operands]) hx⟩
theorem yr_pick_t {c x y : Operand} {u : Value} (ho : o.op = .pick c x y) (hc : E.opd c = some (.bool true)) (hx : E.opd x = some u) : YR P E o u := yr_of fun ρ w hE =>
  ⟨ρ x, by simp [execOp, ho, cn_bool (hE.get (by simp [ho, Op.operands]) hc), asBool], hE.get (by simp [ho, Op.operands]) hx⟩
theorem yr_pick_f {c x y : Operand} {u : Value} (ho : o.op = .pick c x y) (hc : E.opd c = some (.bool false)) (hx : E.opd y = some u) : YR P E o u := yr_of fun ρ w hE =>
  ⟨ρ y, by simp [execOp, ho, cn_bool (hE.get (by simp [ho, Op.operands]) hc), asBool], hE.get (by simp [ho, Op.operands]) hx⟩
theorem yr_extract {t : Operand} {i : Nat} {us : Array Value} {u : Value} (ho : o.op = .extract t i) (ht : E.opd t = some (.tuple us)) (hu : us[i]? = some u) (hn : ∀ z, u ≠ .tuple z) : YR P E o u := yr_of fun ρ w hE => by
  obtain ⟨cs, h1, h2⟩ := cn_tuple (hE.get (x := t) (by simp [ho, Op.operands]) ht)
  subst h2
  simp only [Array.getElem?_map, Option.map_eq_some_iff] at hu
  obtain ⟨v, hv, hu⟩ := hu
  refine ⟨v, by simp [execOp, ho, h1, Instr.extract, hv], ?_⟩
  cases v <;> simp [cn, cn1, cn0] at hu ⊢ <;> try exact hu
  exact absurd hu.symm (hn _)
theorem yr_not {t : TypeId} {x : Operand} {b : Bool} (ho : o.op = .unOp .not t x) (hx : E.opd x = some (.bool b)) : YR P E o (.bool !b) := yr_of fun ρ w hE =>
  ⟨.bool !b, by simp [execOp, ho, cn_bool (hE.get (x := x) (by simp [ho, Op.operands]) hx), Op.unary], rfl⟩
theorem yr_negInt {t : TypeId} {x : Operand} {k : IntKind} {a r : Int} (ho : o.op = .unOp .neg t x) (hx : E.opd x = some (.int k a)) (hr : k.wrap (0 - a) = r) : YR P E o (.int k r) := yr_of fun ρ w hE =>
  ⟨.int k r, by simp [execOp, ho, cn_int (hE.get (x := x) (by simp [ho, Op.operands]) hx), Op.unary, Op.intArith, ← hr], rfl⟩
theorem yr_func {f : Fn} {captured : Array Operand} {us : Array Value} (ho : o.op = .makeFunc f #[] captured) (hf : ∀ ρ, Ev E o.op ρ → captured.map ρ = us) (hrun : ∀ w, (Instr.makeFunc f #[] us).run P w = .ok (.func f #[] us) w) : YR P E o (.func f #[] us) := yr_of fun ρ w hE =>
  ⟨.func f #[] us, by simp [execOp, ho, hf ρ hE, hrun], rfl⟩

/-! ### whole numbers -/
theorem yr_int {op : BinOp} {t ty : TypeId} {x y : Operand} {k : IntKind} {a b r : Int} (ho : o.op = .binOp op t x y ty) (hx : E.opd x = some (.int k a)) (hy : E.opd y = some (.int k b))
    (hr : (op = .add ∧ k.wrap (a + b) = r) ∨ (op = .sub ∧ k.wrap (a - b) = r) ∨ (op = .mul ∧ k.wrap (a * b) = r)) : YR P E o (.int k r) := yr_of fun ρ w hE => by
  have h1 := cn_int (hE.get (x := x) (by simp [ho, Op.operands]) hx)
  have h2 := cn_int (hE.get (x := y) (by simp [ho, Op.operands]) hy)
  refine ⟨.int k r, ?_, rfl⟩
  rcases hr with ⟨rfl, hr⟩ | ⟨rfl, hr⟩ | ⟨rfl, hr⟩ <;> simp [execOp, ho, h1, h2, eqGuard, binOp, Op.intArith, hr]
theorem yr_quo {t ty : TypeId} {x y : Operand} {k : IntKind} {a b r : Int} (ho : o.op = .binOp .quo t x y ty) (hx : E.opd x = some (.int k a)) (hy : E.opd y = some (.int k b))
    (hb : b ≠ 0) (hr : k.wrap (a.tdiv b) = r) : YR P E o (.int k r) := yr_of fun ρ w hE => by
  have h1 := cn_int (hE.get (x := x) (by simp [ho, Op.operands]) hx)
  have h2 := cn_int (hE.get (x := y) (by simp [ho, Op.operands]) hy)
  exact ⟨.int k r, by simp [execOp, ho, h1, h2, eqGuard, binOp, Op.intDiv, hb, hr], rfl⟩
theorem yr_rem {t ty : TypeId} {x y : Operand} {k : IntKind} {a b : Int} (ho : o.op = .binOp .rem t x y ty) (hx : E.opd x = some (.int k a)) (hy : E.opd y = some (.int k b))
    (hb : b ≠ 0) : YR P E o (.int k (a.tmod b)) := yr_of fun ρ w hE => by
  have h1 := cn_int (hE.get (x := x) (by simp [ho, Op.operands]) hx)
  have h2 := cn_int (hE.get (x := y) (by simp [ho, Op.operands]) hy)
  exact ⟨.int k (a.tmod b), by simp [execOp, ho, h1, h2, eqGuard, binOp, Op.intDiv, hb], rfl⟩
def icmp (op : BinOp) (a b : Int) : Bool :=
  match op with
  | .eql => a == b
  | .neq => a != b
  | .lss => decide (a < b)
  | .leq => decide (a ≤ b)
  | .gtr => decide (a > b)
  | .geq => decide (a ≥ b)
  | _ => false
theorem yr_icmp {op : BinOp} {t ty : TypeId} {x y : Operand} {k : IntKind} {a b : Int} (ho : o.op = .binOp op t x y ty) (hop : op = .eql ∨ op = .neq ∨ op = .lss ∨ op = .leq ∨ op = .gtr ∨ op = .geq)
    (hx : E.opd x = some (.int k a)) (hy : E.opd y = some (.int k b)) : YR P E o (.bool (icmp op a b)) := yr_of fun ρ w hE => by
  have h1 := cn_int (hE.get (x := x) (by simp [ho, Op.operands]) hx)
  have h2 := cn_int (hE.get (x := y) (by simp [ho, Op.operands]) hy)
  refine ⟨.bool (icmp op a b), ?_, rfl⟩
  rcases hop with rfl | rfl | rfl | rfl | rfl | rfl <;> simp [execOp, ho, h1, h2, eqGuard, binOp, Op.intCmp, icmp]
def bcmp (op : BinOp) (a b : Bool) : Bool :=
  match op with
  | .eql => a == b
  | .neq => !(a == b)
  | _ => false
theorem run_equalIn_bool {t : TypeId} (ht : P.underlying t = some .bool) (d : Nat) (a b : Bool) (w : World) : (Op.equalIn (d + 1) t (.bool a) (.bool b)).run P w = .ok (a == b) w := by
  simp [Op.equalIn, run_underlying ht]
theorem run_equal_bool {t : TypeId} (ht : P.underlying t = some .bool) (a b : Bool) (w : World) : (Op.equal t (.bool a) (.bool b)).run P w = .ok (a == b) w := run_equalIn_bool ht 9999 a b w
theorem yr_bcmp {op : BinOp} {t ty : TypeId} {x y : Operand} {a b : Bool} (ho : o.op = .binOp op t x y ty) (ht : P.underlying t = some .bool)
    (hx : E.opd x = some (.bool a)) (hy : E.opd y = some (.bool b)) (hop : op = .eql ∨ op = .neq) : YR P E o (.bool (bcmp op a b)) := yr_of fun ρ w hE => by
  have h1 := cn_bool (hE.get (x := x) (by simp [ho, Op.operands]) hx)
  have h2 := cn_bool (hE.get (x := y) (by simp [ho, Op.operands]) hy)
  refine ⟨.bool (bcmp op a b), ?_, rfl⟩
  rcases hop with rfl | rfl <;> simp [execOp, ho, h1, h2, eqGuard, binOp, run_equal_bool ht, bcmp]

/-! ### floats -/
theorem below_drew (w : World) (k : Nat) : Below w.heap.size w { w with drawn := k } := ⟨rfl, rfl, rfl, Nat.le_refl _, fun _ _ => rfl⟩

theorem run_farith (op : BinOp) (t : TypeId) (k : FloatKind) (x y : Nat) (hop : op = .add ∨ op = .sub ∨ op = .mul ∨ op = .quo) (w : World) :
    ∃ r w', (binOp op t (.float k x) (.float k y)).run P w = .ok (.float k r) w' ∧ cb k r = fop op k x y ∧ Below w.heap.size w w' := by
  cases h : floatBits op k x y with
  | some r => exact ⟨r, w, run_float_arith w op t k x y r h, by rw [cb_of_num (floatBits_num h) (floatBits_lt h)]; simp [fop, h], Below.refl _ _⟩
  | none =>
    refine ⟨(Question.nanBits k x y).cut (w.tape w.drawn (.nanBits k x y)), { w with drawn := w.drawn + 1 }, ?_, ?_, below_drew _ _⟩
    · unfold floatBits at h
      rcases hop with rfl | rfl | rfl | rfl <;> simp only at h <;> simp [binOp, Op.floatArith, h, choose, Sem.run, Question.forced]
    · rw [cb_of_nan (cut_nan _ _ _ _)]; simp [fop, h]

theorem yr_float {op : BinOp} {t ty : TypeId} {x y : Operand} {k : FloatKind} {a b : Nat} (ho : o.op = .binOp op t x y ty) (hop : op = .add ∨ op = .sub ∨ op = .mul ∨ op = .quo)
    (hx : E.opd x = some (.float k a)) (hy : E.opd y = some (.float k b)) : YR P E o (.float k (fop op k a b)) := fun ρ w hE => by
  obtain ⟨a', h1, rfl⟩ := cn_float (hE.get (x := x) (by simp [ho, Op.operands]) hx)
  obtain ⟨b', h2, rfl⟩ := cn_float (hE.get (x := y) (by simp [ho, Op.operands]) hy)
  obtain ⟨r, w', h3, h4, h5⟩ := run_farith (P := P) op t k a' b' hop w
  have hg : (eqGuard op t x y (ρ x) (ρ y)).run P w = .ok () w := by
    rcases hop with rfl | rfl | rfl | rfl <;> simp [eqGuard]
  simp only [execOp, ho, Sem.run_bind, hg, Result.andThen_ok]
  rw [h1, h2, h3]
  exact ⟨by simp [cn, cn1, cn0, h4, fop_cb], h5⟩

theorem yr_fcmp {op : BinOp} {t ty : TypeId} {x y : Operand} {k : FloatKind} {a b : Nat} (ho : o.op = .binOp op t x y ty) (hop : op = .eql ∨ op = .neq ∨ op = .lss ∨ op = .leq ∨ op = .gtr ∨ op = .geq)
    (hx : E.opd x = some (.float k a)) (hy : E.opd y = some (.float k b)) : YR P E o (.bool (fcmp op k a b)) := yr_of fun ρ w hE => by
  obtain ⟨a', h1, rfl⟩ := cn_float (hE.get (x := x) (by simp [ho, Op.operands]) hx)
  obtain ⟨b', h2, rfl⟩ := cn_float (hE.get (x := y) (by simp [ho, Op.operands]) hy)
  refine ⟨.bool (fcmp op k a' b'), ?_, by rw [fcmp_cb]; rfl⟩
  rcases hop with rfl | rfl | rfl | rfl | rfl | rfl <;> simp [execOp, ho, h1, h2, eqGuard, binOp, Op.floatCmp, fcmp]

theorem negFloat_nan (k : FloatKind) (b : Nat) : fnan k (Op.negFloat k b) = fnan k b := by
  have key : ∀ (f : Ieee.Format) (x : Nat), (f.read (x ^^^ 2 ^ (f.exponentBits + f.fractionBits))).isNaN = (f.read x).isNaN := by
    intro f x
    have hm : (x ^^^ 2 ^ (f.exponentBits + f.fractionBits)) % f.signWeight = x % f.signWeight := by
      unfold Ieee.Format.signWeight
      apply Nat.eq_of_testBit_eq
      intro i
      simp only [Nat.testBit_mod_two_pow, Nat.testBit_xor, Nat.testBit_two_pow]
      by_cases hi : i < f.exponentBits + f.fractionBits
      · have : ¬ f.exponentBits + f.fractionBits = i := by omega
        simp [hi, this]
      · simp [hi]
    unfold Ieee.Format.read
    simp only [hm]
    split
    · rfl
    · split
      · rfl
      · split <;> rfl
  exact key k.format b
theorem negFloat_mod (k : FloatKind) (b : Nat) : Op.negFloat k b % 2 ^ k.format.width = Op.negFloat k (b % 2 ^ k.format.width) := by
  unfold Op.negFloat
  apply Nat.eq_of_testBit_eq
  intro i
  have hw : k.format.exponentBits + k.format.fractionBits < k.format.width := by unfold Ieee.Format.width; omega
  simp only [Nat.testBit_mod_two_pow, Nat.testBit_xor, Nat.testBit_two_pow]
  by_cases hi : i < k.format.width
  · simp [hi]
  · have : ¬ k.format.exponentBits + k.format.fractionBits = i := by omega
    simp [hi, this]
theorem fneg_cb (k : FloatKind) (x : Nat) : fneg k (cb k x) = fneg k x := by
  unfold fneg
  cases h : fnan k x
  · have h1 : fnan k (Op.negFloat k (cb k x)) = false := by rw [negFloat_nan, fnan_cb, h]
    have h2 : fnan k (Op.negFloat k x) = false := by rw [negFloat_nan, h]
    rw [cb_num h1, cb_num h2, cb_num h]
  · rw [cb_of_nan (b := Op.negFloat k (cb k x)) (by rw [negFloat_nan, fnan_cb, h]), cb_of_nan (by rw [negFloat_nan, h])]
theorem yr_fneg {t : TypeId} {x : Operand} {k : FloatKind} {a : Nat} (ho : o.op = .unOp .neg t x) (hx : E.opd x = some (.float k a)) : YR P E o (.float k (fneg k a)) := yr_of fun ρ w hE => by
  obtain ⟨a', h1, rfl⟩ := cn_float (hE.get (x := x) (by simp [ho, Op.operands]) hx)
  exact ⟨.float k (Op.negFloat k a'), by simp [execOp, ho, h1, Op.unary], by rw [fneg_cb]; rfl⟩

theorem yr_fconv {src dst : TypeId} {x : Operand} {s k : FloatKind} {a : Nat} (ho : o.op = .convert src dst x) (hs : P.underlying src = some (.float s)) (hd : P.underlying dst = some (.float k))
    (hne : s ≠ k) (hx : E.opd x = some (.float s a)) (hv : fover s k a = false) : YR P E o (.float k (fconv s k a)) := fun ρ w hE => by
  obtain ⟨a', h1, rfl⟩ := cn_float (hE.get (x := x) (by simp [ho, Op.operands]) hx)
  rw [fover_cb] at hv
  rw [fconv_cb _ _ _ hne]
  simp only [execOp, ho, convert, Sem.run_bind, run_underlying hs, run_underlying hd, h1, Result.andThen_ok, Conv.floatToFloat, hne, if_false]
  unfold fover at hv
  unfold fconv
  rw [if_neg hne] at hv ⊢
  cases hr : s.decode a' with
  | nan sg f =>
    rw [hr] at hv
    simp [choose, Sem.run, Question.forced, ResOk, cn, cn1, cn0]
    exact ⟨cb_of_nan (cut_conv_nan _ _ _), below_drew _ _⟩
  | infinity sg => simp [ResOk, cn, cn1, cn0, Below.refl]; exact cb_of_num (write_num k.format (d := .infinity sg) rfl) (encode_lt _ _)
  | number sg m e =>
    rw [hr] at hv
    simp [hv, ResOk, cn, cn1, cn0, Below.refl]
    exact cb_of_num (write_num k.format (d := .number sg m e) rfl) (encode_lt _ _)

theorem nearest_num (k : FloatKind) (i : Int) : fnan k (k.nearest i) = false := write_num k.format (d := .number (i < 0) i.natAbs 0) rfl
theorem yr_ofInt {src dst : TypeId} {x : Operand} {q : IntKind} {k : FloatKind} {a : Int} (ho : o.op = .convert src dst x) (hs : P.underlying src = some (.int q)) (hd : P.underlying dst = some (.float k))
    (hx : E.opd x = some (.int q a)) : YR P E o (.float k (k.nearest a)) := yr_of fun ρ w hE => by
  have h1 := cn_int (hE.get (x := x) (by simp [ho, Op.operands]) hx)
  exact ⟨.float k (k.nearest a), by simp [execOp, ho, convert, run_underlying hs, run_underlying hd, h1, Conv.intToFloat], by simp [cn, cn1, cn0, cb_of_num (nearest_num k a) (encode_lt _ _)]⟩
theorem yr_toInt {src dst : TypeId} {x : Operand} {k : IntKind} {s : FloatKind} {a : Nat} {i : Int} (ho : o.op = .convert src dst x) (hs : P.underlying src = some (.float s)) (hd : P.underlying dst = some (.int k))
    (hx : E.opd x = some (.float s a)) (hi : floatToIntVal s a k = some i) : YR P E o (.int k i) := yr_of fun ρ w hE => by
  obtain ⟨a', h1, rfl⟩ := cn_float (hE.get (x := x) (by simp [ho, Op.operands]) hx)
  have hi' : floatToIntVal s a' k = some i := by
    unfold floatToIntVal at hi ⊢
    rcases decode_cb s a' with ⟨h1, _⟩ | ⟨sg, f, s', f', h1, h2⟩
    · rwa [h1] at hi
    · rw [h2] at hi; simp [Ieee.Datum.toInt, Ieee.Datum.integral] at hi
  exact ⟨.int k i, by simp [execOp, ho, run_convert_float_int w src dst s k a' i (by simp [hs]) hd hi', h1], rfl⟩
theorem yr_intConv {src dst : TypeId} {x : Operand} {q k : IntKind} {a r : Int} (ho : o.op = .convert src dst x) (hs : P.underlying src = some (.int q)) (hd : P.underlying dst = some (.int k))
    (hx : E.opd x = some (.int q a)) (hr : k.wrap a = r) : YR P E o (.int k r) := yr_of fun ρ w hE => by
  have h1 := cn_int (hE.get (x := x) (by simp [ho, Op.operands]) hx)
  exact ⟨.int k r, by simp [execOp, ho, convert, run_underlying hs, run_underlying hd, h1, Conv.intToInt, hr], rfl⟩

/-! ### slices, addresses -/
theorem yr_len {x : Operand} {t e : TypeId} {a : Option Addr} {m c : Nat} (ho : o.op = .call ⟨.builtin .len, #[x], #[t]⟩) (ht : P.underlying t = some (.slice e)) (hx : E.opd x = some (.slice a m c)) : YR P E o (.int .i64 m) := yr_of fun ρ w hE => by
  have h1 := cn_slice (hE.get (x := x) (by simp [ho, Op.operands, Call.operands]) hx)
  exact ⟨.int .i64 m, by simp [execOp, ho, h1, resolve, invoke, builtin, Builtin.len_, run_underlying ht, goInt], rfl⟩
theorem yr_lenString {x : Operand} {t : TypeId} {s : ByteArray} (ho : o.op = .call ⟨.builtin .len, #[x], #[t]⟩) (ht : P.underlying t = some .string) (hx : E.opd x = some (.string s)) : YR P E o (.int .i64 s.size) := yr_of fun ρ w hE => by
  have h1 := cn_string (hE.get (x := x) (by simp [ho, Op.operands, Call.operands]) hx)
  exact ⟨.int .i64 s.size, by simp [execOp, ho, h1, resolve, invoke, builtin, Builtin.len_, run_underlying ht, goInt], rfl⟩

/-- The address k cells behind a. -/
def adr (a : Option Addr) (k : Nat) : Addr :=
  match a with
  | some p => ⟨p.block, p.off + k, none⟩
  | none => ⟨0, k, none⟩

theorem adr_add {p : Addr} (hp : p.spot = none) (k : Nat) : p.add k = adr (some p) k := by
  unfold Addr.add adr
  split
  · rename_i h; subst h; cases p; simp at hp ⊢; exact hp
  · rfl
theorem adr_adr (a : Option Addr) (k m : Nat) : (adr a k).add m = adr a (k + m) := by
  unfold adr Addr.add
  cases a <;> (split <;> (try rename_i h; subst h) <;> simp [Nat.add_assoc])

theorem info_size {t : TypeId} {z : Nat} (h : (P.info? t).map (·.size) = some z) (w : World) : (sizeOf t).run P w = .ok z w := by
  obtain ⟨i, hi, rfl⟩ := Option.map_eq_some_iff.1 h
  simp [sizeOf, typeInfo, hi, program, Sem.run]

theorem yq_indexAddr {t e : TypeId} {x y : Operand} {a : Option Addr} {m c z : Nat} {i : Int} {k : IntKind} {us : List Value} (ho : o.op = .indexAddr t x y) (ht : P.underlying t = some (.slice e)) (hz : (P.info? e).map (·.size) = some z)
    (hx : E.opd x = some (.slice a m c)) (hy : E.opd y = some (.int k i)) (hs : Sees w0 O a us) (hus : us ≠ []) (h0 : 0 ≤ i) (h1 : i < m) : YQ P w0 O E o (.pointer (some (adr a (i.toNat * z)))) := by
  intro ρ w hE hw
  have e1 := cn_slice (hE.get (x := x) (by simp [ho, Op.operands]) hx)
  have e2 := cn_int (hE.get (x := y) (by simp [ho, Op.operands]) hy)
  rcases hs w hw with h | ⟨p, rfl, hsp, _⟩
  · exact absurd h hus
  · have hr : (execOp ρ o).run P w = .ok (.value (.pointer (some (adr (some p) (i.toNat * z))))) w := by
      simp [execOp, ho, e1, e2, Instr.indexAt, asIntOf, run_underlying ht, h0, h1, info_size hz, adr_add hsp]
    rw [hr]
    exact ⟨rfl, Below.refl _ _⟩

theorem yr_fieldAddr {t : TypeId} {x : Operand} {a : Option Addr} {k f off z : Nat} {fs : Array Field} {fd : Field} (ho : o.op = .fieldAddr t x f) (ht : P.underlying t = some (.struct fs)) (hf : fs[f]? = some fd) (hoff : fd.offset = off) (hz : (P.info? fd.type).map (·.size) = some z) (hz0 : z ≠ 0)
    (hx : E.opd x = some (.pointer (some (adr a k)))) : YR P E o (.pointer (some (adr a (k + off)))) := yr_of fun ρ w hE => by
  have e1 := cn_pointer (hE.get (x := x) (by simp [ho, Op.operands]) hx)
  refine ⟨.pointer (some (adr a (k + off))), by simp [execOp, ho, e1, Instr.fieldAt, run_underlying ht, hf, Instr.sureAddr, fieldPlace, info_size hz, hz0, adr_adr, hoff], rfl⟩

theorem yr_nilCheck {x : Operand} {p : Addr} (ho : o.op = .nilCheck x) (hx : E.opd x = some (.pointer (some p))) : YR P E o (.pointer (some p)) := yr_of fun ρ w hE => by
  have e1 := cn_pointer (hE.get (x := x) (by simp [ho, Op.operands]) hx)
  exact ⟨.pointer (some p), by simp [execOp, ho, e1], rfl⟩

/-! ### loads -/
theorem Cl.cell {w : World} {a : Option Addr} {us : List Value} (h : Cl w a us) {k : Nat} {u : Value} (hk : us[k]? = some u) : ∃ v, w.cell? (adr a k) = some v ∧ cn v = u := by
  rcases h with h | ⟨p, rfl, hsp, h⟩
  · rw [h] at hk; simp at hk
  · exact h k u hk

def flatB (P : Program) (t : TypeId) : Bool := match P.underlying t with | some (.struct _) => false | some (.array ..) => false | some _ => true | none => false
theorem run_isAgg_flat {t : TypeId} (h : flatB P t = true) (w : World) : (isAgg t).run P w = .ok false w := by
  unfold flatB at h
  cases hu : P.underlying t with
  | none => rw [hu] at h; cases h
  | some d => rw [hu] at h; cases d <;> simp [isAgg, run_underlying hu] at h ⊢
theorem yq_load {t : TypeId} {x : Operand} {a : Option Addr} {k : Nat} {us : List Value} {u : Value} (ho : o.op = .load t x) (ht : flatB P t = true) (hx : E.opd x = some (.pointer (some (adr a k)))) (hs : Sees w0 O a us) (hk : us[k]? = some u) : YQ P w0 O E o u := by
  intro ρ w hE hw
  have e1 := cn_pointer (hE.get (x := x) (by simp [ho, Op.operands]) hx)
  obtain ⟨v, hv, hu⟩ := (hs w hw).cell hk
  have hr : (execOp ρ o).run P w = .ok (.value v) w := by
    simp [execOp, ho, e1, Instr.loadAt, Instr.sureAddr, loadVar, run_isAgg_flat ht, hv]
  rw [hr]
  exact ⟨hu, Below.refl _ _⟩

theorem aggB {t : TypeId} {fs : Array Field} (h : P.underlying t = some (.struct fs)) (w : World) : (isAgg t).run P w = .ok true w := by
  simp [isAgg, run_underlying h]

def scal : Value → Bool
  | .agg _ => false
  | .tuple _ => false
  | _ => true
theorem scal_cn {v u : Value} (h : cn v = u) (hs : scal u = true) : cn0 v = u ∧ scal v = true := by
  subst h
  cases v <;> simp [cn, cn1, cn0, scal] at hs ⊢

theorem Cl.cellsN {w : World} {a : Option Addr} {us : List Value} (h : Cl w a us) : ∀ (cs : List Value) (k : Nat), (∀ j u, cs[j]? = some u → us[k + j]? = some u) →
    ∃ vs : List Value, vs.length = cs.length ∧ (∀ j v, vs[j]? = some v → w.cell? (adr a (k + j)) = some v) ∧ vs.map cn = cs
  | [], _, _ => ⟨[], rfl, by simp, rfl⟩
  | c :: cs, k, hk => by
    obtain ⟨v, hv, hu⟩ := h.cell (hk 0 c rfl)
    obtain ⟨vs, h1, h2, h3⟩ := Cl.cellsN h cs (k + 1) (fun j u hj => by have := hk (j + 1) u (by simpa using hj); rwa [show k + 1 + j = k + (j + 1) by omega])
    refine ⟨v :: vs, by simp [h1], fun j v' hj => ?_, by simp [hu, h3]⟩
    cases j with
    | zero => simp at hj; subst hj; exact hv
    | succ j => have := h2 j v' (by simpa using hj); rwa [show k + (j + 1) = k + 1 + j by omega]

theorem map_cn0_of {vs cs : List Value} (h : vs.map cn = cs) (hs : cs.all scal = true) : vs.map cn0 = cs ∧ vs.all scal = true := by
  induction vs generalizing cs with
  | nil => subst h; exact ⟨rfl, rfl⟩
  | cons v vs ih =>
    subst h
    simp only [List.map_cons, List.all_cons, Bool.and_eq_true] at hs
    obtain ⟨h1, h2⟩ := scal_cn (v := v) rfl hs.1
    obtain ⟨h3, h4⟩ := ih rfl hs.2
    exact ⟨by simp only [List.map_cons, h1, h3], by simp [h2, h4]⟩

theorem run_loadCells_adr {w : World} {a : Option Addr} {k : Nat} (vs : List Value) (h : ∀ j v, vs[j]? = some v → w.cell? (adr a (k + j)) = some v) : (loadCells (adr a k) vs.length).run P w = .ok vs.toArray w :=
  run_loadCells_list w (adr a k) vs (fun j v hj => by rw [adr_adr]; exact h j v hj)

/-- A struct is read: its cells are those of us from the k-th on. -/
theorem yq_loadS {t : TypeId} {x : Operand} {a : Option Addr} {k z : Nat} {us cs : List Value} {fs : Array Field} (ho : o.op = .load t x) (ht : P.underlying t = some (.struct fs)) (hz : (P.info? t).map (·.size) = some z) (hx : E.opd x = some (.pointer (some (adr a k)))) (hs : Sees w0 O a us)
    (hcs : (us.drop k).take z = cs) (hl : cs.length = z) (hsc : cs.all scal = true) : YQ P w0 O E o (.agg cs.toArray) := by
  intro ρ w hE hw
  have e1 := cn_pointer (hE.get (x := x) (by simp [ho, Op.operands]) hx)
  obtain ⟨vs, h1, h2, h3⟩ := (hs w hw).cellsN cs k (fun j u hj => by
    subst hcs
    have hj' : j < z := by
      have := (List.getElem?_eq_some_iff.1 hj).1
      simp at this; omega
    rw [List.getElem?_take, if_pos hj', List.getElem?_drop] at hj
    exact hj)
  obtain ⟨h4, h5⟩ := map_cn0_of h3 hsc
  have hr : (execOp ρ o).run P w = .ok (.value (.agg vs.toArray)) w := by
    have hload := run_loadCells_adr (P := P) (w := w) (a := a) (k := k) vs h2
    rw [h1, hl] at hload
    simp [execOp, ho, e1, Instr.loadAt, Instr.sureAddr, loadVar, aggB ht, info_size hz, hload]
  rw [hr]
  exact ⟨by simp [cn, cn1, h4], Below.refl _ _⟩

/-- A field of a struct value. -/
theorem yr_field {t : TypeId} {x : Operand} {f off : Nat} {fs : Array Field} {fd : Field} {cs : Array Value} {u : Value} (ho : o.op = .field t x f) (ht : P.underlying t = some (.struct fs)) (hf : fs[f]? = some fd) (hoff : fd.offset = off) (hflat : flatB P fd.type = true)
    (hx : E.opd x = some (.agg cs)) (hu : cs[off]? = some u) (hs : scal u = true) : YR P E o u := yr_of fun ρ w hE => by
  obtain ⟨vs, h1, h2⟩ := cn_agg (hE.get (x := x) (by simp [ho, Op.operands]) hx)
  subst h2
  simp only [Array.getElem?_map, Option.map_eq_some_iff] at hu
  obtain ⟨v, hv, hu⟩ := hu
  have hvs : scal v = true := by
    subst hu
    cases v <;> simp [cn0, scal] at hs ⊢
  refine ⟨v, by simp [execOp, ho, h1, Instr.field, run_underlying ht, hf, part, run_isAgg_flat hflat, asAgg, hoff, hv], ?_⟩
  subst hu
  cases v <;> simp [cn, cn1, cn0, scal] at hvs ⊢

/-! ### stores -/
/-- e0 among O, replaced by what f makes -/
inductive UpdF {X : Type} : List Ent → Ent → (X → Ent) → (X → List Ent) → Prop
  | here {e0 : Ent} {O : List Ent} {f : X → Ent} : UpdF (e0 :: O) e0 f (fun x => f x :: O)
  | there {e0 g : Ent} {O : List Ent} {f : X → Ent} {O' : X → List Ent} : UpdF O e0 f O' → UpdF (g :: O) e0 f (fun x => g :: O' x)
  | thereS {e0 : Ent} {S O : List Ent} {f : X → Ent} {O' : X → List Ent} : UpdF O e0 f O' → UpdF (S ++ O) e0 f (fun x => S ++ O' x)

theorem UpdF.parts {X : Type} {e0 : Ent} {f : X → Ent} {O' : X → List Ent} (h : UpdF O e0 f O') : ∃ A B, O = A ++ e0 :: B ∧ ∀ x, O' x = A ++ f x :: B := by
  induction h with
  | here => exact ⟨[], _, rfl, fun _ => rfl⟩
  | there _ ih => obtain ⟨A, B, rfl, h⟩ := ih; exact ⟨_ :: A, B, rfl, fun x => congrArg (_ :: ·) (h x)⟩
  | thereS _ ih => rename_i S _ _ _ _; obtain ⟨A, B, rfl, h⟩ := ih; exact ⟨S ++ A, B, by simp, fun x => by simp [h]⟩

/-- One block has turned. -/
structure Turns (w : World) (b : Nat) (w' : World) : Prop where
  os : w'.os = w.os
  tape : w'.tape = w.tape
  output : w'.output = w.output
  size : w.heap.size ≤ w'.heap.size
  block : ∀ k, k < w.heap.size → k ≠ b → w'.heap[k]? = w.heap[k]?

theorem Turns.trans {w w1 w2 : World} {b : Nat} (h : Turns w b w1) (k : Turns w1 b w2) : Turns w b w2 :=
  ⟨k.os.trans h.os, k.tape.trans h.tape, k.output.trans h.output, Nat.le_trans h.size k.size, fun i hi hb => (k.block i (Nat.lt_of_lt_of_le hi h.size) hb).trans (h.block i hi hb)⟩
theorem Turns.setCell (w : World) (a : Addr) (v : Value) : Turns w a.block (w.setCell a v) :=
  ⟨rfl, rfl, rfl, by simp, fun k _ hk => Below.heap_setCell _ _ _ _ hk⟩
theorem Turns.of_below {w w' : World} (h : Below w.heap.size w w') (b : Nat) : Turns w b w' := ⟨h.os, h.tape, h.output, h.size, fun k hk _ => h.block k hk⟩
theorem Turns.of_grown {w w' : World} {b : Nat} (h : w.grownBy w' (some b)) : Turns w b w' := ⟨h.os, h.tape, h.output, h.size, fun k hk hb => h.block k hk (by simpa using hb)⟩

theorem apart_symm {e f : Ent} (h : e.apart f) : f.apart e := fun hc hc' p q hp hq => (h hc' hc q p hq hp).symm

theorem Hp.mid {A B : List Ent} {e : Ent} {w : World} (h : Hp w0 (A ++ e :: B) w) : (∀ f ∈ A ++ B, f.at w0.heap.size w) ∧ e.at w0.heap.size w ∧ (A ++ B).Pairwise Ent.apart ∧ ∀ f ∈ A ++ B, e.apart f := by
  have hp := h.apart
  rw [List.pairwise_append, List.pairwise_cons] at hp
  obtain ⟨h1, ⟨h2, h3⟩, h4⟩ := hp
  refine ⟨fun f hf => h.ents f ?_, h.ents e (by simp), ?_, fun f hf => ?_⟩
  · rcases List.mem_append.1 hf with hf | hf
    · exact List.mem_append.2 (.inl hf)
    · exact List.mem_append.2 (.inr (List.mem_cons_of_mem _ hf))
  · exact List.pairwise_append.2 ⟨h1, h3, fun a ha b hb => h4 a ha b (List.mem_cons_of_mem _ hb)⟩
  · rcases List.mem_append.1 hf with hf | hf
    · exact apart_symm (h4 f hf e List.mem_cons_self)
    · exact h2 f hf

theorem Hp.of_mid {A B : List Ent} {e : Ent} {w : World} (hb : Below w0.heap.size w0 w) (h1 : ∀ f ∈ A ++ B, f.at w0.heap.size w) (h2 : e.at w0.heap.size w) (h3 : (A ++ B).Pairwise Ent.apart) (h4 : ∀ f ∈ A ++ B, e.apart f) : Hp w0 (A ++ e :: B) w := by
  refine ⟨hb, fun f hf => ?_, ?_⟩
  · rcases List.mem_append.1 hf with hf | hf
    · exact h1 f (List.mem_append.2 (.inl hf))
    · rcases List.mem_cons.1 hf with rfl | hf
      · exact h2
      · exact h1 f (List.mem_append.2 (.inr hf))
  · rw [List.pairwise_append] at h3 ⊢
    refine ⟨h3.1, List.pairwise_cons.2 ⟨fun f hf => h4 f (List.mem_append.2 (.inr hf)), h3.2.1⟩, fun a ha b hb => ?_⟩
    rcases List.mem_cons.1 hb with rfl | hb
    · exact apart_symm (h4 a (List.mem_append.2 (.inl ha)))
    · exact h3.2.2 a ha b hb

theorem Below.of_turns {w w' : World} {b : Nat} (hb : Below w0.heap.size w0 w) (ht : Turns w b w') (hge : w0.heap.size ≤ b) : Below w0.heap.size w0 w' :=
  ⟨ht.os.trans hb.os, ht.tape.trans hb.tape, ht.output.trans hb.output, Nat.le_trans hb.size ht.size, fun k hk => (ht.block k (Nat.lt_of_lt_of_le hk hb.size) (by omega)).trans (hb.block k hk)⟩

theorem Ent.at.of_turns {Bs : Nat} {w w' : World} {f : Ent} {b : Nat} (h : f.at Bs w) (ht : Turns w b w') (hne : f.cap ≠ 0 → ∀ p, f.a = some p → p.block ≠ b) : f.at Bs w' := by
  by_cases hc : f.cap = 0
  · rcases h with h | ⟨b', c, h1, h2, h3, h4, h5, h6⟩
    · exact .inl h
    · exact .inl ⟨List.eq_nil_of_length_eq_zero (by omega), hc⟩
  · rcases h with h | ⟨b', c, h1, h2, h3, h4⟩
    · exact .inl h
    · exact .inr ⟨b', c, h1, h2, h3.same (ht.block b' h3.lt (hne hc _ h1)), h4⟩

/-- The block of e has turned (or e has moved to a new one): e' stands in its place. -/
theorem Hp.turn {A B : List Ent} {e e' : Ent} {w w' : World} {b : Nat} (h : Hp w0 (A ++ e :: B) w) (ha : e.cap ≠ 0 → ∃ p, e.a = some p ∧ p.block = b) (hge : w0.heap.size ≤ b) (hc : e.cap = 0 → w.heap.size ≤ b) (ht : Turns w b w') (he : e'.at w0.heap.size w')
    (hw : e'.cap ≠ 0 → ∀ p, e'.a = some p → p.block = b ∨ w.heap.size ≤ p.block) : Hp w0 (A ++ e' :: B) w' := by
  obtain ⟨h1, h2, h3, h4⟩ := h.mid
  have hne : ∀ f ∈ A ++ B, f.cap ≠ 0 → ∀ q, f.a = some q → q.block ≠ b := fun f hf hcf q hq => by
    by_cases hce : e.cap = 0
    · have := ((h1 f hf).block hcf hq).2
      have := hc hce
      omega
    · obtain ⟨p, hp, hpb⟩ := ha hce
      have := h4 f hf hce hcf p q hp hq
      omega
  refine Hp.of_mid (Below.of_turns h.below ht hge) (fun f hf => (h1 f hf).of_turns ht (hne f hf)) he h3 fun f hf hce hcf p q hp hq => ?_
  rcases hw hce p hp with hpb | hpb
  · have := hne f hf hcf q hq; omega
  · have := ((h1 f hf).block hcf hq).2; omega

def setAt (us : List Value) : Nat → List Value → List Value
  | _, [] => us
  | k, c :: cs => setAt (us.set k c) (k + 1) cs
theorem setAt_nth (us : List Value) : ∀ (cs : List Value) (k i : Nat), k + cs.length ≤ us.length → (setAt us k cs)[i]? = if k ≤ i ∧ i < k + cs.length then cs[i - k]? else us[i]?
  | [], k, i, _ => by rw [setAt, if_neg (by simp only [List.length_nil]; omega)]
  | c :: cs, k, i, h => by
    simp only [List.length_cons] at h
    rw [setAt, setAt_nth (us.set k c) cs (k + 1) i (by simp only [List.length_set]; omega)]
    simp only [List.length_cons]
    by_cases h1 : k + 1 ≤ i ∧ i < k + 1 + cs.length
    · rw [if_pos h1, if_pos (by omega), show i - k = (i - (k + 1)) + 1 by omega, List.getElem?_cons_succ]
    · rw [if_neg h1]
      by_cases h2 : i = k
      · subst h2
        rw [if_pos (by omega), Nat.sub_self, List.getElem?_cons_zero, List.getElem?_set_self (by omega)]
      · rw [if_neg (by omega), List.getElem?_set_ne (by omega)]
theorem setAt_length (us : List Value) (k : Nat) (cs : List Value) : (setAt us k cs).length = us.length := by
  induction cs generalizing us k with
  | nil => rfl
  | cons c cs ih => rw [setAt, ih, List.length_set]

theorem run_store_scal {w : World} {a : Addr} {v v0 : Value} (hs : scal v = true) (hv : w.cell? a = some v0) (hf : w.frozen? a = false) : (store a v).run P w = .ok () (w.setCell a v) := by
  cases v <;> simp [scal] at hs <;> simp [store, Sem.run, hv, hf]

/-- A row of cells is written into a block that is known. -/
theorem run_storeCells_ent {Bs : Nat} : ∀ (vs : List Value) (us : List Value) (i k : Nat) (w : World) (a : Option Addr) (cap : Nat) (ty : TypeId), vs.all scal = true → k + i + vs.length ≤ us.length → Ent.at Bs w ⟨a, us, cap, ty⟩ →
    ∃ b w', (storeCells (adr a k) vs i).run P w = .ok () w' ∧ (vs ≠ [] → a = some ⟨b, 0, none⟩) ∧ Turns w b w' ∧ Ent.at Bs w' ⟨a, setAt us (k + i) (vs.map cn), cap, ty⟩
  | [], us, i, k, w, a, cap, ty, _, _, he => by
    rcases a with _ | ⟨b, o', s⟩
    · exact ⟨0, w, by simp [storeCells], by simp, Turns.of_below (Below.refl _ _) _, he⟩
    · exact ⟨b, w, by simp [storeCells], by simp, Turns.of_below (Below.refl _ _) _, he⟩
  | v :: vs, us, i, k, w, a, cap, ty, hs, hl, he => by
    simp only [List.all_cons, Bool.and_eq_true] at hs
    simp only [List.length_cons] at hl
    rcases he with he | ⟨b, c, h1, h2, h3, h4, h5, h6⟩
    · have := he.1
      change us = [] at this
      subst this
      simp at hl
    · simp only at h1 h3 h4 h5 h6
      subst h1
      have hk : k + i < us.length := by omega
      have hadr : adr (some ⟨b, 0, none⟩) (k + i) = ⟨b, k + i, none⟩ := by simp [adr]
      obtain ⟨v0, hv0, _⟩ := h6 (k + i) us[k + i] (List.getElem?_eq_getElem hk)
      have hcell : w.cell? (adr (some ⟨b, 0, none⟩) (k + i)) = some v0 := by rw [hadr, h3.cell]; exact hv0
      have hfr : w.frozen? (adr (some ⟨b, 0, none⟩) (k + i)) = false := by rw [hadr]; exact h3.melt (Array.getElem?_eq_some_iff.1 hv0).1
      have hst := run_store_scal (P := P) (w := w) hs.1 hcell hfr
      have hw1 : Frz (w.setCell (adr (some ⟨b, 0, none⟩) (k + i)) v) b (c.setIfInBounds (k + i) v) ty := by
        rw [hadr]; exact h3.set _ _
      have he1 : Ent.at Bs (w.setCell (adr (some ⟨b, 0, none⟩) (k + i)) v) ⟨some ⟨b, 0, none⟩, us.set (k + i) (cn v), cap, ty⟩ := by
        refine .inr ⟨b, _, rfl, h2, hw1, by simpa using h4, by simpa using h5, fun j u hj => ?_⟩
        by_cases hjk : k + i = j
        · subst hjk
          rw [List.getElem?_set_self hk] at hj
          cases hj
          have hlt : k + i < c.size := (Array.getElem?_eq_some_iff.1 hv0).1
          exact ⟨v, by rw [Array.getElem?_setIfInBounds, if_pos rfl, if_pos hlt], rfl⟩
        · rw [List.getElem?_set_ne hjk] at hj
          obtain ⟨v', hv', hu'⟩ := h6 j u hj
          exact ⟨v', by rw [Array.getElem?_setIfInBounds_ne hjk]; exact hv', hu'⟩
      obtain ⟨b', w', g1, g2, g3, g4⟩ := run_storeCells_ent vs (us.set (k + i) (cn v)) (i + 1) k _ (some ⟨b, 0, none⟩) cap ty hs.2 (by simp only [List.length_set]; omega) he1
      have hbb : vs ≠ [] → b' = b := fun hn => by have := g2 hn; injection this with h; injection h with h; exact h.symm
      refine ⟨b, w', ?_, fun _ => rfl, ?_, ?_⟩
      · simp only [storeCells, Sem.run_bind, adr_adr, hst, Result.andThen_ok]
        exact g1
      · refine Turns.trans (Turns.setCell w (adr (some ⟨b, 0, none⟩) (k + i)) v) ?_
        rw [hadr]
        cases vs with
        | nil =>
          have g1' : w.setCell (adr (some ⟨b, 0, none⟩) (k + i)) v = w' := by simpa [storeCells] using g1
          rw [hadr] at g1'
          subst g1'; exact Turns.of_below (Below.refl _ _) _
        | cons _ _ => rw [hbb (by simp), hadr] at g3; exact g3
      · simp only [List.map_cons, setAt]
        rw [show k + i + 1 = k + (i + 1) by omega]
        exact g4

theorem Ent.at.addr {Bs : Nat} {w : World} {e : Ent} (h : e.at Bs w) (hc : e.cap ≠ 0) : ∃ b, e.a = some ⟨b, 0, none⟩ ∧ Bs ≤ b := by
  rcases h with h | ⟨b, c, h1, h2, _⟩
  · exact absurd h.2 hc
  · exact ⟨b, h1, h2⟩

/-- A store into a block of the call's own: one cell, or a struct's. -/
theorem yc_store {t : TypeId} {x y : Operand} {a : Option Addr} {k z cap : Nat} {ty : TypeId} {us us' cs : List Value} {u : Value} {O' : Unit → List Ent} (ho : o.op = .store t x y) (hz : (P.info? t).map (·.size) = some z)
    (hx : E.opd x = some (.pointer (some (adr a k)))) (hy : E.opd y = some u) (hO : UpdF O ⟨a, us, cap, ty⟩ (fun _ : Unit => ⟨a, us', cap, ty⟩) O') (hu : (scal u = true ∧ cs = [u]) ∨ (u = .agg cs.toArray ∧ cs.all scal = true)) (hl : cs.length = z) (hk : k + z ≤ us.length) (hz0 : 0 < z)
    (hus : setAt us k cs = us') : YC P w0 O E o (fun _ : Unit => undef) O' := by
  intro ρ w F hE hw
  have e1 := cn_pointer (hE.get (x := x) (by simp [ho, Op.operands]) hx)
  have e2 := hE.get (x := y) (by simp [ho, Op.operands]) hy
  obtain ⟨A, B, rfl, hO'⟩ := hO.parts
  simp only [hO']
  rw [← List.append_assoc] at hw ⊢
  -- the concrete cells
  obtain ⟨vs, g1, g2, g3⟩ : ∃ vs : List Value, (ρ y).cells = vs.toArray ∧ vs.map cn = cs ∧ vs.all scal = true := by
    rcases hu with ⟨hs, rfl⟩ | ⟨rfl, hs⟩
    · obtain ⟨h1, h2⟩ := scal_cn e2 hs
      refine ⟨[ρ y], ?_, by simp [e2], by simp [h2]⟩
      generalize ρ y = v at *
      cases v <;> simp [scal, Value.cells] at h2 ⊢
    · obtain ⟨ws, h1, h2⟩ := cn_agg e2
      refine ⟨ws.toList, by rw [h1]; simp [Value.cells], ?_, ?_⟩
      · have : ws.toList.map cn0 = cs := by have := congrArg Array.toList h2; simpa using this
        subst this
        apply List.map_congr_left
        intro v hv
        have hsv : scal (cn0 v) = true := List.all_eq_true.1 hs _ (List.mem_map_of_mem hv)
        cases v <;> simp [cn0, scal] at hsv <;> rfl
      · have : ws.toList.map cn0 = cs := by have := congrArg Array.toList h2; simpa using this
        subst this
        rw [List.all_eq_true] at hs ⊢
        intro v hv
        have hsv : scal (cn0 v) = true := hs _ (List.mem_map_of_mem hv)
        cases v <;> simp [cn0, scal] at hsv ⊢
  have hvl : vs.length = z := by rw [← hl, ← g2, List.length_map]
  have hent := (hw.ents ⟨a, us, cap, ty⟩ (by simp))
  have hcap : cap ≠ 0 := by
    rcases hent with h | ⟨_, _, _, _, _, _, h5, _⟩
    · have := h.1; simp only at this; subst this; simp at hk; omega
    · simp only at h5; omega
  obtain ⟨b0, hb0, hge⟩ := hent.addr hcap
  obtain ⟨b, w', r1, r2, r3, r4⟩ := run_storeCells_ent (P := P) vs us 0 k w a cap ty g3 (by omega) hent
  have hbb : b = b0 := by
    have := r2 (by intro h; subst h; simp at hvl; omega)
    simp only at hb0
    rw [this] at hb0
    simpa using hb0
  subst hbb
  have hr : (execOp ρ o).run P w = .ok .skip w' := by
    simp only [execOp, ho, Instr.storeAt, Instr.sureAddr, e1, storeVar, Sem.run_bind, Sem.run_pure, Result.andThen_ok, info_size hz, g1]
    simp [hvl, r1]
  rw [hr]
  refine ⟨(), by simp [undef, cn], ?_⟩
  simp only [Nat.add_zero, g2, hus] at r4
  exact Hp.turn hw (fun _ => ⟨_, hb0, rfl⟩) hge (fun h => absurd h hcap) r3 r4 (fun _ p hp => .inl (by simp only at hp hb0; rw [hb0] at hp; cases hp; rfl))

/-! ### new blocks -/
theorem below_alloc (w : World) (c : Array Value) (e : TypeId) : Below w.heap.size w (w.alloc (.cells c e)) := (Below.refl _ w).alloc (Nat.le_refl _) _
theorem heap_alloc_at (w : World) (c : Array Value) (e : TypeId) : Frz (w.alloc (.cells c e)) w.heap.size c e := by
  refine ⟨(0, 0), ?_, .inl rfl⟩
  show (w.heap.push _)[w.heap.size]? = _
  simp
theorem ent_new (w : World) (vs us : List Value) (e : TypeId) (h : vs.map cn = us) : Ent.at w.heap.size (w.alloc (.cells vs.toArray e)) ⟨some ⟨w.heap.size, 0, none⟩, us, us.length, e⟩ := by
  subst h
  refine .inr ⟨w.heap.size, vs.toArray, rfl, Nat.le_refl _, heap_alloc_at w _ e, by simp, by simp, fun i u hu => ?_⟩
  simp only [List.getElem?_map, Option.map_eq_some_iff] at hu
  simpa using hu
theorem run_newRow (w : World) (e : TypeId) (c : Array Value) : (newRow e c).run P w = .ok ⟨w.heap.size, 0, none⟩ (w.alloc (.cells c e)) := by
  rfl

/-- The cells of a canonical value. -/
theorem cells_cn {v u : Value} {cs : List Value} (e2 : cn v = u) (hu : (scal u = true ∧ cs = [u]) ∨ (u = .agg cs.toArray ∧ cs.all scal = true)) : ∃ vs : List Value, v.cells = vs.toArray ∧ vs.map cn = cs ∧ vs.all scal = true := by
  rcases hu with ⟨hs, rfl⟩ | ⟨rfl, hs⟩
  · obtain ⟨h1, h2⟩ := scal_cn e2 hs
    refine ⟨[v], ?_, by simp [e2], by simp [h2]⟩
    cases v <;> simp [scal, Value.cells] at h2 ⊢
  · obtain ⟨ws, rfl, h2⟩ := cn_agg e2
    have h3 : ws.toList.map cn0 = cs := by have := congrArg Array.toList h2; simpa using this
    subst h3
    refine ⟨ws.toList, by simp [Value.cells], ?_, ?_⟩
    · apply List.map_congr_left
      intro v hv
      have hsv : scal (cn0 v) = true := List.all_eq_true.1 hs _ (List.mem_map_of_mem hv)
      cases v <;> simp [cn0, scal] at hsv <;> rfl
    · rw [List.all_eq_true] at hs ⊢
      intro v hv
      have hsv : scal (cn0 v) = true := hs _ (List.mem_map_of_mem hv)
      cases v <;> simp [cn0, scal] at hsv ⊢

theorem yn_box {e : TypeId} {x : Operand} {u : Value} {cs : List Value} (ho : o.op = .box e x) (hx : E.opd x = some u) (hu : (scal u = true ∧ cs = [u]) ∨ (u = .agg cs.toArray ∧ cs.all scal = true)) :
    YN P w0 O E o (fun b : Nat => .pointer (some (adr (some ⟨b, 0, none⟩) 0))) (fun b => [⟨some ⟨b, 0, none⟩, cs, cs.length, e⟩]) := by
  intro ρ w hE hw
  obtain ⟨vs, g1, g2, g3⟩ := cells_cn (hE.get (x := x) (by simp [ho, Op.operands]) hx) hu
  have hr : (execOp ρ o).run P w = .ok (.value (.pointer (some ⟨w.heap.size, 0, none⟩))) (w.alloc (.cells vs.toArray e)) := by
    simp [execOp, ho, Instr.box, newVar, run_newRow, g1]
  rw [hr]
  refine ⟨w.heap.size, by simp [cn, cn1, cn0, adr], below_alloc _ _ _, ?_, List.pairwise_singleton _ _⟩
  intro e' he'
  simp only [List.mem_singleton] at he'
  subst he'
  exact ent_new w vs cs e g2

theorem info_zero {t : TypeId} {z : Value} (h : (P.info? t).bind (·.zero) = some z) (w : World) : (zeroValue t).run P w = .ok z w := by
  obtain ⟨i, hi, h⟩ := Option.bind_eq_some_iff.1 h
  simp [zeroValue, typeInfo, hi, h, program, Sem.run]

theorem yn_alloc {e : TypeId} {z : Value} {cs : List Value} (ho : o.op = .alloc e) (hz : (P.info? e).bind (·.zero) = some z) (hc : z.cells.toList.map cn = cs) :
    YN P w0 O E o (fun b : Nat => .pointer (some (adr (some ⟨b, 0, none⟩) 0))) (fun b => [⟨some ⟨b, 0, none⟩, cs, cs.length, e⟩]) := by
  intro ρ w hE hw
  have hr : (execOp ρ o).run P w = .ok (.value (.pointer (some ⟨w.heap.size, 0, none⟩))) (w.alloc (.cells z.cells.toList.toArray e)) := by
    simp [execOp, ho, Instr.alloc, newVar, run_newRow, info_zero hz]
  rw [hr]
  refine ⟨w.heap.size, by simp [cn, cn1, cn0, adr], below_alloc _ _ _, ?_, List.pairwise_singleton _ _⟩
  intro e' he'
  simp only [List.mem_singleton] at he'
  subst he'
  exact ent_new w _ cs e hc

end
end Go.Proofs.Ytacjcomjnabmhaa
