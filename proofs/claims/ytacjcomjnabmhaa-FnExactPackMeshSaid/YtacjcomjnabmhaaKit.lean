/- Small words for the walks: typed rows, loops, comparisons. -/
import Derived.Test.YtacjcomjnabmhaaRegion
namespace Go.Proofs.Ytacjcomjnabmhaa
open Go.RowKit

/-! ### rows of floats and the like -/
def fl (xs : List Nat) : List Value := xs.map (Value.float .f32)
def il (xs : List Int) : List Value := xs.map (Value.int .i64)
theorem fl_length (xs : List Nat) : (fl xs).length = xs.length := by simp [fl]
theorem fl_get {xs : List Nat} {k : Nat} (h : k < xs.length) : (fl xs)[k]? = some (.float .f32 (xs.getD k 0)) := by
  simp [fl, h]
theorem fl_scal (xs : List Nat) : (fl xs).all scal = true := by simp [fl, scal]
theorem fl_append (xs ys : List Nat) : fl xs ++ fl ys = fl (xs ++ ys) := by simp [fl]
theorem fl_snoc (xs : List Nat) (x : Nat) : fl xs ++ [Value.float .f32 x] = fl (xs ++ [x]) := by simp [fl]
theorem fl_nil : fl [] = [] := rfl
theorem map_take_succ {β : Type} (f : Nat → β) {xs : List Nat} {k : Nat} (h : k < xs.length) : (xs.take k).map f ++ [f (xs.getD k 0)] = (xs.take (k + 1)).map f := by
  rw [List.take_succ_eq_append_getElem h, List.map_append, List.map_cons, List.map_nil]; simp [h]
theorem fl_set (xs : List Nat) (k x : Nat) : (fl xs).set k (.float .f32 x) = fl (xs.set k x) := by simp [fl, List.map_set]
theorem fl_inj {xs ys : List Nat} (h : fl xs = fl ys) : xs = ys := by
  induction xs generalizing ys with
  | nil => cases ys <;> simp [fl] at h ⊢
  | cons x xs ih =>
    cases ys with
    | nil => simp [fl] at h
    | cons y ys =>
      simp only [fl, List.map_cons, List.cons.injEq, Value.float.injEq, true_and] at h
      rw [h.1, ih h.2]
theorem fl_zeros (m : Nat) : cycle [Value.float .f32 0] m = fl (List.replicate m 0) := by
  induction m with
  | zero => rfl
  | succ m ih => simp [cycle, ih, fl, List.replicate_succ]

section
variable {P : Program} {n : Nat} {w0 : World} {O : List Ent} {E : Env} {Q : Exit → Act → World → Prop} {o : Oper}

/-- x[k], the index a number that counts -/
theorem yq_idx {t e : TypeId} {x y : Operand} {a : Option Addr} {m c k : Nat} {i : Int} {kk : IntKind} {us : List Value} (ho : o.op = .indexAddr t x y) (ht : P.underlying t = some (.slice e)) (hz : (P.info? e).map (·.size) = some 1)
    (hx : E.opd x = some (.slice a m c)) (hy : E.opd y = some (.int kk i)) (hs : Sees w0 O a us) (hi : i = (k : Int)) (hl : us.length = m) (h1 : k < m) : YQ P w0 O E o (.pointer (some (adr a k))) := by
  subst hi
  have := yq_indexAddr (k := kk) ho ht hz hx hy hs (by intro h; subst h; simp at hl; omega) (Int.natCast_nonneg k) (by omega)
  simpa using this
theorem yq_idxN {t e : TypeId} {x y : Operand} {a : Option Addr} {m c k z : Nat} {i : Int} {kk : IntKind} {us : List Value} (ho : o.op = .indexAddr t x y) (ht : P.underlying t = some (.slice e)) (hz : (P.info? e).map (·.size) = some z)
    (hx : E.opd x = some (.slice a m c)) (hy : E.opd y = some (.int kk i)) (hs : Sees w0 O a us) (hi : i = (k : Int)) (hl : us.length = m * z) (hz0 : 0 < z) (h1 : k < m) : YQ P w0 O E o (.pointer (some (adr a (k * z)))) := by
  subst hi
  have := yq_indexAddr (k := kk) ho ht hz hx hy hs (by
    intro h; subst h
    have : m * z = 0 := hl.symm
    rcases mul_zero_cases this with h | h <;> omega) (Int.natCast_nonneg k) (by omega)
  simpa using this
theorem yq_loadF {t : TypeId} {x : Operand} {a : Option Addr} {k : Nat} {xs : List Nat} (ho : o.op = .load t x) (ht : flatB P t = true) (hx : E.opd x = some (.pointer (some (adr a k)))) (hs : Sees w0 O a (fl xs)) (hk : k < xs.length) : YQ P w0 O E o (.float .f32 (xs.getD k 0)) :=
  yq_load ho ht hx hs (fl_get hk)

/-- x[i], the index any number that is in range -/
theorem yq_idxZ {t e : TypeId} {x y : Operand} {a : Option Addr} {m c : Nat} {i : Int} {kk : IntKind} {us : List Value} (ho : o.op = .indexAddr t x y) (ht : P.underlying t = some (.slice e)) (hz : (P.info? e).map (·.size) = some 1)
    (hx : E.opd x = some (.slice a m c)) (hy : E.opd y = some (.int kk i)) (hs : Sees w0 O a us) (h0 : 0 ≤ i) (hl : us.length = m) (h1 : i < m) : YQ P w0 O E o (.pointer (some (adr a i.toNat))) := by
  have := yq_indexAddr (k := kk) ho ht hz hx hy hs (by intro h; subst h; simp at hl; omega) h0 h1
  simpa using this

/-! ### further rules -/
theorem V.condT {c : Operand} {x y : Code} (hc : E.opd c = some (.bool true)) (h : V P n w0 O E x Q) : V P n w0 O E (.cond c x y) Q := V.cond hc (fun _ => h) (fun h => by cases h)
theorem V.condF {c : Operand} {x y : Code} (hc : E.opd c = some (.bool false)) (h : V P n w0 O E y Q) : V P n w0 O E (.cond c x y) Q := V.cond hc (fun h => by cases h) (fun _ => h)
theorem VE.fall {fn : Func} {R : Value → World → Prop} (h : VE n w0 O E (Ends P fn R) .ret) : VE n w0 O E (Ends P fn R) .normal := h
theorem VL.r0 {ops : Array Oper} {rest : List Oper} {u : Value} (hg : Wants ops E o) (hd : o.dst = none) (hy : YR P E o u) (h : VL P n w0 O E ops Q rest) : VL P n w0 O E ops Q (o :: rest) := by
  intro a w ha hw
  refine wpList_step fun K hK => ?_
  rw [if_pos (hg.wanted ha)]
  unfold Oper.wp
  refine (hy a.eval w (ha.ev _)).upon fun v w' hv => hK _ _ ?_
  exact h _ _ (by rw [hd]; exact ha) (hw.ext hv.2)

/-- A slice held against nil. -/
theorem run_neq_nil {t e : TypeId} (ht : P.underlying t = some (.slice e)) (a : Option Addr) (m c : Nat) (w : World) : (Op.equal t (.slice a m c) (.slice none 0 0)).run P w = .ok a.isNone w := run_equal_slice_nil w t e a m c ht
theorem yr_nileq {t e ty : TypeId} {x y : Operand} {a : Option Addr} {m c : Nat} (ho : o.op = .binOp .eql t x y ty) (ht : P.underlying t = some (.slice e)) (hx : E.opd x = some (.slice a m c)) (hy : E.opd y = some (.slice none 0 0)) : YR P E o (.bool a.isNone) := yr_of fun ρ w hE => by
  have h1 := cn_slice (hE.get (x := x) (by simp [ho, Op.operands]) hx)
  have h2 := cn_slice (hE.get (x := y) (by simp [ho, Op.operands]) hy)
  exact ⟨.bool a.isNone, by simp [execOp, ho, h1, h2, eqGuard, binOp, run_neq_nil ht], rfl⟩
theorem yr_nilne {t e ty : TypeId} {x y : Operand} {a : Option Addr} {m c : Nat} (ho : o.op = .binOp .neq t x y ty) (ht : P.underlying t = some (.slice e)) (hx : E.opd x = some (.slice a m c)) (hy : E.opd y = some (.slice none 0 0)) : YR P E o (.bool (!a.isNone)) := yr_of fun ρ w hE => by
  have h1 := cn_slice (hE.get (x := x) (by simp [ho, Op.operands]) hx)
  have h2 := cn_slice (hE.get (x := y) (by simp [ho, Op.operands]) hy)
  exact ⟨.bool (!a.isNone), by simp [execOp, ho, h1, h2, eqGuard, binOp, run_neq_nil ht], rfl⟩
/-- A product of two numbers that are not negative. -/
theorem yr_mulN {t ty : TypeId} {x y : Operand} {p q : Int} (a b : Nat) (ho : o.op = .binOp .mul t x y ty) (hx : E.opd x = some (.int .i64 p)) (hy : E.opd y = some (.int .i64 q)) (hp : p = (a : Int)) (hq : q = (b : Int)) (hb : a * b ≤ 9223372036854775807) : YR P E o (.int .i64 ((a * b : Nat) : Int)) := by
  subst hp; subst hq
  have := yr_int (P := P) (r := (a : Int) * (b : Int)) ho hx hy (.inr (.inr ⟨rfl, IntWalk.i64_in _ (by rw [← Int.natCast_mul]; omega)⟩))
  rwa [← Int.natCast_mul] at this
/-! ### functions that the model gives -/
def ExtF (P : Program) (f : FuncId) (e : Array Value → Sem Value) : Prop := ∃ fn, P.funcs[f]? = some fn ∧ (fn.name == "runtime.NumGoroutine") = false ∧ fn.body = none ∧ Extern.findNext fn = none ∧ Extern.find fn = some e
theorem yq_ext {args : Array Operand} {ts : Array TypeId} {f : FuncId} {us : List Value} {u : Value} {e : Array Value → Sem Value} (ho : o.op = .call ⟨.value (.func f), args, ts⟩) (hk : ExtF P f e) (hx : Opds E args.toList us)
    (h : ∀ (vs : Array Value) (w : World), vs.toList.map cn = us → ∃ v w', (e vs).run P w = .ok v w' ∧ cn v = u ∧ Below w.heap.size w w') : YQ P w0 O E o u := by
  intro ρ w hE _
  obtain ⟨fn, h1, h2, h3, h4, h5⟩ := hk
  have h2' : ¬ fn.name = "runtime.NumGoroutine" := by simpa using h2
  obtain ⟨v, w', g1, g2, g3⟩ := h (args.map ρ ++ #[]) w (args_map' ho hx hE)
  have hc : cn (ρ (.func f)) = .func (.func f) #[] #[] := hE.get (x := .func f) (by simp [ho, Op.operands, Call.operands]) rfl
  have hc' := cn_func hc
  have hr : (execOp ρ o).run P w = .ok (.value v) w' := by
    simp only [Array.append_empty] at g1
    simp [execOp, ho, resolve, hc', Deferred.ofValue, invoke, callFunc, program, Sem.run, h1, h2', h3, h4, h5, g1]
  rw [hr]
  exact ⟨g2, g3⟩
/-- to the nearest whole number -/
def fround (x : Nat) : Nat := match FloatKind.f64.decode x with | .nan _ _ => qn .f64 | d => FloatKind.f64.encode (d.integral .even)
def fsqrt (x : Nat) : Nat := (Ieee.double.sqrt x).getD (qn .f64)
theorem one_arg {vs : Array Value} {k : FloatKind} {x : Nat} (h : vs.toList.map cn = [.float k x]) : ∃ b, vs = #[.float k b] ∧ cb k b = x := by
  obtain ⟨l⟩ := vs
  cases l with
  | nil => simp at h
  | cons v l =>
    cases l with
    | nil =>
      simp only [List.map_cons, List.map_nil, List.cons.injEq, and_true] at h
      obtain ⟨b, rfl, hb⟩ := cn_float h
      exact ⟨b, rfl, hb⟩
    | cons _ _ => simp at h
theorem integral_num {d : Ieee.Datum} (h : d.isNaN = false) (way : Ieee.Toward) : (d.integral way).isNaN = false := by
  cases d <;> simp [Ieee.Datum.integral, Ieee.Datum.isNaN] at h ⊢
theorem toIntegral_eq (name : String) (way : Ieee.Toward) (x : Nat) : Extern.MathFloor.toIntegral name way #[.float .f64 x] = (match FloatKind.f64.decode x with
    | .nan s t =>
      if FloatKind.f64.format.quiet t = t then pure (.float .f64 x) else do
      let kept ← choose (.extern "math.Floor,Ceil,Trunc,RoundToEven.signallingNaN kept" 2)
      pure (.float .f64 (if kept == 1 then x else FloatKind.f64.encode (.nan s (FloatKind.f64.format.quiet t))))
    | d => pure (.float .f64 (FloatKind.f64.encode (d.integral way)))) := rfl
theorem sqrt_eq (x : Nat) : Extern.MathSqrt.sqrt #[.float .f64 x] = (match Ieee.double.sqrt x with
    | some r => pure (.float .f64 r)
    | none => do pure (.float .f64 (← choose (.nanBits .f64 x x)))) := rfl
theorem ext_round (vs : Array Value) (w : World) {x : Nat} (h : vs.toList.map cn = [.float .f64 x]) : ∃ v w', (Extern.MathFloor.toIntegral "math.RoundToEven" .even vs).run P w = .ok v w' ∧ cn v = .float .f64 (fround x) ∧ Below w.heap.size w w' := by
  obtain ⟨b, rfl, rfl⟩ := one_arg h
  cases hn : fnan .f64 b
  · have hd : (FloatKind.f64.decode b).isNaN = false := hn
    have hr : fround (cb .f64 b) = FloatKind.f64.encode ((FloatKind.f64.decode b).integral .even) := by
      unfold fround
      rw [show FloatKind.f64.decode (cb .f64 b) = FloatKind.f64.decode b from read_cb hn]
      generalize FloatKind.f64.decode b = dd at hd ⊢
      cases dd <;> first | rfl | simp [Ieee.Datum.isNaN] at hd
    refine ⟨.float .f64 (FloatKind.f64.encode ((FloatKind.f64.decode b).integral .even)), w, ?_, ?_, Below.refl _ _⟩
    · rw [toIntegral_eq]
      generalize FloatKind.f64.decode b = dd at hd ⊢
      cases dd <;> first | rfl | simp [Ieee.Datum.isNaN] at hd
    · simp only [cn, cn1, cn0]
      rw [cb_of_num (k := .f64) (b := FloatKind.f64.encode ((FloatKind.f64.decode b).integral .even)) (write_num Ieee.double (integral_num hd .even)) (encode_lt _ _), hr]
  · obtain ⟨sg, fr, hr⟩ := read_nan hn
    have hd : FloatKind.f64.decode b = .nan sg fr := hr
    have hq : fround (cb .f64 b) = qn .f64 := by
      obtain ⟨s', f', hr'⟩ := read_nan (k := .f64) (b := cb .f64 b) (by rw [fnan_cb, hn])
      unfold fround FloatKind.decode
      rw [hr']
    rw [hq]
    rw [toIntegral_eq, hd]
    by_cases hk : FloatKind.f64.format.quiet fr = fr
    · exact ⟨.float .f64 b, w, by simp [hk], by simp [cn, cn1, cn0, cb_of_nan hn], Below.refl _ _⟩
    · simp only [hk, if_false]
      have henc : fnan .f64 (FloatKind.f64.encode (.nan sg (FloatKind.f64.format.quiet fr))) = true := quiet_nan sg fr b hd
      refine ⟨_, { w with drawn := w.drawn + 1 }, by simp [choose, Sem.run, Question.forced]; rfl, ?_, below_drew _ _⟩
      simp only [cn, cn1, cn0]
      split
      · rw [cb_of_nan hn]
      · rw [cb_of_nan henc]
where
  quiet_nan (sg : Bool) (fr b : Nat) (hd : FloatKind.f64.decode b = .nan sg fr) : fnan .f64 (FloatKind.f64.encode (.nan sg (FloatKind.f64.format.quiet fr))) = true := by
    have hbin : FloatKind.f64.format.binade = 2 ^ 52 := rfl
    have hfr : fr < 2 ^ 52 := by
      unfold FloatKind.decode Ieee.Format.read at hd
      simp only at hd
      split at hd
      · cases hd
      · split at hd
        · cases hd
        · split at hd
          · cases hd
          · cases hd
            have hsw : FloatKind.f64.format.signWeight = 9223372036854775808 := by decide
            have hinf : FloatKind.f64.format.infRung = 9218868437227405312 := by decide
            rw [hsw, hinf]
            have := Nat.mod_lt b (show 0 < 9223372036854775808 by decide)
            omega
    have hq1 : FloatKind.f64.format.quiet fr < 2 ^ 52 := Nat.or_lt_two_pow hfr (by decide)
    have hq2 : FloatKind.f64.format.quiet fr ≠ 0 := by
      intro h
      have : (fr ||| 2 ^ 51).testBit 51 = true := by rw [Nat.testBit_or, Nat.testBit_two_pow_self, Bool.or_true]
      have h' : (fr ||| 2 ^ 51) = 0 := h
      rw [h'] at this
      simp at this
    unfold fnan FloatKind.decode FloatKind.encode Ieee.Format.write Ieee.Format.word Ieee.Format.read
    have hsw : FloatKind.f64.format.signWeight = 9223372036854775808 := by decide
    have hinf : FloatKind.f64.format.infRung = 9218868437227405312 := by decide
    simp only [hbin, hsw, hinf, Nat.mod_eq_of_lt hq1]
    have hm : (if sg = true then 9223372036854775808 + (9218868437227405312 + FloatKind.f64.format.quiet fr) else 9218868437227405312 + FloatKind.f64.format.quiet fr) % 9223372036854775808 = 9218868437227405312 + FloatKind.f64.format.quiet fr := by
      split <;> omega
    simp only [hm]
    rw [if_neg (by omega), if_neg (by omega), if_neg (by omega)]
    rfl
theorem ext_sqrt (vs : Array Value) (w : World) {x : Nat} (h : vs.toList.map cn = [.float .f64 x]) : ∃ v w', (Extern.MathSqrt.sqrt vs).run P w = .ok v w' ∧ cn v = .float .f64 (fsqrt x) ∧ Below w.heap.size w w' := by
  obtain ⟨b, rfl, rfl⟩ := one_arg h
  have hcb : Ieee.double.sqrt (cb .f64 b) = Ieee.double.sqrt b := by
    cases hn : fnan .f64 b
    · have := read_cb hn
      unfold Ieee.Format.sqrt
      rw [show Ieee.double.read (cb .f64 b) = Ieee.double.read b from this]
    · obtain ⟨s1, f1, h1⟩ := read_nan hn
      obtain ⟨s2, f2, h2⟩ := read_nan (k := .f64) (b := cb .f64 b) (by rw [fnan_cb, hn])
      have h1' : Ieee.double.read b = .nan s1 f1 := h1
      have h2' : Ieee.double.read (cb .f64 b) = .nan s2 f2 := h2
      unfold Ieee.Format.sqrt
      rw [h1', h2']; rfl
  unfold fsqrt
  rw [hcb]
  cases hs : Ieee.double.sqrt b with
  | some r =>
    refine ⟨.float .f64 r, w, by simp [sqrt_eq, hs], ?_, Below.refl _ _⟩
    have hnum : fnan .f64 r = false := by
      unfold Ieee.Format.sqrt at hs
      obtain ⟨d, hd, rfl⟩ := Option.map_eq_some_iff.1 hs
      exact write_num Ieee.double (root_num hd)
    have hlt : r < 2 ^ FloatKind.f64.format.width := Ieee.Format.sqrt_lt _ hs
    simp [cn, cn1, cn0, cb_of_num hnum hlt]
  | none =>
    refine ⟨_, { w with drawn := w.drawn + 1 }, by simp [sqrt_eq, hs, choose, Sem.run, Question.forced]; rfl, ?_, below_drew _ _⟩
    simp only [cn, cn1, cn0, Option.getD_none]
    rw [cb_of_nan (cut_nan .f64 b b _)]

/-! ### loops -/
inductive Cov (E : Env) : Env → Prop
  | nil : Cov E []
  | cons {t : Nat} {u : Value} {E' : Env} : E.get t = some u → Cov E E' → Cov E ((t, u) :: E')
theorem Cov.get {E E' : Env} (h : Cov E E') : ∀ t u, E'.get t = some u → E.get t = some u := by
  induction h with
  | nil => intro t u h; simp [Env.get] at h
  | cons h1 _ ih =>
    intro t u h
    simp only [Env.get] at h
    split at h
    · rename_i hb
      cases h
      obtain rfl := Nat.eq_of_beq_eq_true hb
      exact h1
    · exact ih t u h
theorem Cov.append {E A B : Env} (h : Cov E A) (k : Cov E B) : Cov E (A ++ B) := by
  induction h with
  | nil => exact k
  | cons h1 _ ih => exact .cons h1 ih

/-- What a round leads to: the head again, nearer to the end. -/
def RoundQ {G : Type} (n : Nat) (w0 : World) (Ec : Env) (I : G → Prop) (Og : G → List Ent) (Ev' : G → Env) (μ : G → Nat) (g : G) : Act → World → Prop :=
  fun a w => ∃ g', I g' ∧ Models n (Ev' g' ++ Ec) a ∧ Hp w0 (Og g') w ∧ μ g' < μ g
theorem V.loopc {G : Type} {body : Code} (Ec : Env) (I : G → Prop) (Og : G → List Ent) (Ev' : G → Env) (μ : G → Nat) (g0 : G)
    (hc : Cov E Ec) (hE : Cov E (Ev' g0)) (hO : ∀ w, Hp w0 O w → Hp w0 (Og g0) w) (h0 : I g0)
    (round : ∀ g, I g → V P n w0 (Og g) (Ev' g ++ Ec) body (Exit.then (RoundQ n w0 Ec I Og Ev' μ g) Q)) :
    V P n w0 O E (.loop body) Q := V.loop I Og Ev' Ec μ g0 (hE.append hc).get hO h0 round

/-- .. what is owned stays as it is -/
theorem V.loops {G : Type} {body : Code} (Ec : Env) (I : G → Prop) (Ev' : G → Env) (μ : G → Nat) (g0 : G)
    (hc : Cov E Ec) (hE : Cov E (Ev' g0)) (h0 : I g0)
    (round : ∀ g, I g → V P n w0 O (Ev' g ++ Ec) body (Exit.then (RoundQ n w0 Ec I (fun _ => O) Ev' μ g) Q)) :
    V P n w0 O E (.loop body) Q := V.loopc Ec I (fun _ => O) Ev' μ g0 hc hE (fun _ h => h) h0 round

theorem VE.round {G : Type} {Ec : Env} {I : G → Prop} {Og : G → List Ent} {Ev' : G → Env} {μ : G → Nat} {g : G} (g' : G)
    (hE : Cov E (Ev' g')) (hc : Cov E Ec) (hO : ∀ w, Hp w0 O w → Hp w0 (Og g') w) (hI : I g') (hμ : μ g' < μ g) :
    VE n w0 O E (Exit.then (RoundQ n w0 Ec I Og Ev' μ g) Q) .normal :=
  fun _ w ha hw => ⟨g', hI, ha.mono (hE.append hc).get, hO w hw, hμ⟩

/-- What is known is written anew (fewer slots, other words for the same). -/
theorem VX.cov {E' : Env} {R : Act → World → Prop} (hc : Cov E E') (h : VX n w0 O E' R) : VX n w0 O E R := h.mono hc.get fun _ h => h
theorem VX.own {O' : List Ent} {R : Act → World → Prop} (hO : ∀ w, Hp w0 O w → Hp w0 O' w) (h : VX n w0 O' E R) : VX n w0 O E R := h.mono (fun _ _ h => h) hO
end

/-! ### what a call hands back -/
theorem Hp.out1 {w0 w1 : World} {e : Ent} {O : List Ent} (h : Hp w0 (e :: O) w1) : Below w0.heap.size w0 w1 ∧ (∀ f ∈ [e], f.at w0.heap.size w1) ∧ [e].Pairwise Ent.apart :=
  ⟨h.below, fun f hf => h.ents f (by rw [List.mem_singleton] at hf; subst hf; exact List.mem_cons_self), List.pairwise_singleton _ _⟩
theorem Hp.outs {w0 w1 : World} {N O : List Ent} (h : Hp w0 O w1) (hs : N.Sublist O) : Below w0.heap.size w0 w1 ∧ (∀ f ∈ N, f.at w0.heap.size w1) ∧ N.Pairwise Ent.apart :=
  ⟨h.below, fun f hf => h.ents f (hs.subset hf), h.apart.sublist hs⟩

theorem Sees.at {w0 : World} {O : List Ent} {a : Option Addr} {us : List Value} {cap : Nat} {ty : TypeId} (i : Nat) (h : O[i]? = some ⟨a, us, cap, ty⟩) : Sees w0 O a us := Sees.own (List.mem_of_getElem? h)

theorem Pick.one {O F : List Ent} {e : Ent} (h : Rem O [e] F) : Pick O [e] F := Pick.take h .nil

theorem Pick.two {O O1 F R : List Ent} {e : Ent} (h : Rem O [e] O1) (h2 : Rem O1 R F) : Pick O (e :: R) F := Pick.take h (by simpa using Pick.take h2 .nil)
theorem Pick.four {O O1 O2 O3 F R : List Ent} {e1 e2 e3 : Ent} (h1 : Rem O [e1] O1) (h2 : Rem O1 [e2] O2) (h3 : Rem O2 [e3] O3) (h4 : Rem O3 R F) : Pick O (e1 :: e2 :: e3 :: R) F := Pick.take h1 (Pick.take h2 (Pick.two h3 h4))

theorem Rem.all {S : List Ent} : Rem S S [] := by simpa using (Rem.hereS (S := S) (O := []))
/-- What a function that turns its caller's blocks hands back, in the caller's order. -/
theorem Hp.take {w0 w : World} {O M F F' : List Ent} (hw : Hp w0 O w) (h : Pick O M F') (hs : F.Sublist F') : Hp w0 (F ++ M) w := (hw.perm' h.perm).sub (hs.append (List.Sublist.refl M))

/-! ### lists -/
theorem take_set_succ {ys xs : List Nat} {k : Nat} (hl : ys.length = xs.length) (ht : ys.take k = xs.take k) (hk : k < xs.length) : (ys.set k (xs.getD k 0)).take (k + 1) = xs.take (k + 1) := by
  apply List.ext_getElem?
  intro j
  have hj := congrArg (·[j]?) ht
  simp only [List.getElem?_take] at hj ⊢
  by_cases h1 : j < k
  · rw [if_pos h1, if_pos h1] at hj
    rw [if_pos (by omega), if_pos (by omega), List.getElem?_set_ne (by omega), hj]
  · by_cases h2 : j = k
    · subst h2
      rw [if_pos (by omega), if_pos (by omega), List.getElem?_set_self (by omega)]
      simp [hk]
    · rw [if_neg (by omega), if_neg (by omega)]
theorem take_all {ys xs : List Nat} {k : Nat} (hl : ys.length = xs.length) (ht : ys.take k = xs.take k) (hk : xs.length ≤ k) : ys = xs := by
  rwa [List.take_of_length_le (by omega), List.take_of_length_le hk] at ht

theorem getD_mem {xs : List Nat} {k : Nat} (h : k < xs.length) : xs.getD k 0 ∈ xs := by simp [h]
theorem take_succ_eq {xs ys : List Nat} {k : Nat} (ht : xs.take k = ys.take k) (hx : k < xs.length) (hy : k < ys.length) (h : xs.getD k 0 = ys.getD k 0) : xs.take (k + 1) = ys.take (k + 1) := by
  rw [List.take_succ_eq_append_getElem hx, List.take_succ_eq_append_getElem hy, ht]
  simp [hx, hy] at h
  rw [h]

/-! ### comparisons -/
theorem bnot_t {b : Bool} (h : (!b) = true) : b = false := by simpa using h
theorem bnot_f {b : Bool} (h : (!b) = false) : b = true := by simpa using h
theorem ic_lss {a b : Int} (h : icmp .lss a b = true) : a < b := of_decide_eq_true h
theorem ic_lss' {a b : Int} (h : icmp .lss a b = false) : b ≤ a := by have := of_decide_eq_false h; omega
theorem ic_leq {a b : Int} (h : icmp .leq a b = true) : a ≤ b := of_decide_eq_true h
theorem ic_leq' {a b : Int} (h : icmp .leq a b = false) : b < a := by have := of_decide_eq_false h; omega
theorem ic_gtr {a b : Int} (h : icmp .gtr a b = true) : b < a := of_decide_eq_true h
theorem ic_gtr' {a b : Int} (h : icmp .gtr a b = false) : a ≤ b := by have := of_decide_eq_false h; omega
theorem ic_geq {a b : Int} (h : icmp .geq a b = true) : b ≤ a := of_decide_eq_true h
theorem ic_geq' {a b : Int} (h : icmp .geq a b = false) : a < b := by have := of_decide_eq_false h; omega
theorem ic_eql {a b : Int} (h : icmp .eql a b = true) : a = b := by simpa [icmp] using h
theorem ic_eql' {a b : Int} (h : icmp .eql a b = false) : a ≠ b := by simpa [icmp] using h
theorem ic_neq {a b : Int} (h : icmp .neq a b = true) : a ≠ b := by simpa [icmp] using h
theorem ic_neq' {a b : Int} (h : icmp .neq a b = false) : a = b := by simpa [icmp] using h

theorem wrap_in {a : Int} (h : -9223372036854775808 ≤ a ∧ a ≤ 9223372036854775807) : IntKind.i64.wrap a = a := IntWalk.i64_in a h

theorem gset {xs : List Nat} {j v : Nat} (h : j < xs.length) (i : Nat) : (xs.set j v).getD i 0 = if i = j then v else xs.getD i 0 := by
  simp only [List.getD, List.getElem?_set]
  by_cases e : j = i
  · subst e; simp [h]
  · rw [if_neg e, if_neg (fun h => e h.symm)]
theorem ext_getD {xs ys : List Nat} (hl : xs.length = ys.length) (h : ∀ i, i < xs.length → xs.getD i 0 = ys.getD i 0) : xs = ys := by
  apply List.ext_getElem hl
  intro i h1 h2
  have := h i h1
  simpa [List.getD, h1, h2] using this
theorem getD_range (n : Nat) (f : Nat → Nat) {i : Nat} (h : i < n) : ((List.range n).map f).getD i 0 = f i := by
  simp [List.getD, h]
theorem idx_lt {n j k : Nat} (hj : j < n) (hk : k < n) : j * n + k < n * n := by
  have : (j + 1) * n ≤ n * n := Nat.mul_le_mul_right n hj
  rw [Nat.add_mul] at this
  omega
theorem mul_small {a b : Nat} (ha : a ≤ 2147483648) (hb : b ≤ 2147483648) : a * b ≤ 4611686018427387904 := Nat.mul_le_mul ha hb

end Go.Proofs.Ytacjcomjnabmhaa
