/- Calls, contracts, entry and return; struct values, slices that are made, append. -/
import Derived.Test.YtacjcomjnabmhaaRules
namespace Go.Proofs.Ytacjcomjnabmhaa
open Go.RowKit

/-! ### contracts -/
/-- The call yields u (canonically) and turns nothing that was there. -/
def Pure (P : Program) (f : FuncId) (us : List Value) (w : World) (u : Value) : Prop :=
  ∀ vs : Array Value, vs.toList.map cn = us → Calls P f vs w (fun e w' => ∃ v, e = .returned v ∧ cn v = u ∧ Below w.heap.size w w')
/-- .. yields u x with the new blocks N x, for some x. -/
def New (P : Program) (f : FuncId) (us : List Value) (w : World) {X : Type} (u : X → Value) (N : X → List Ent) : Prop :=
  ∀ vs : Array Value, vs.toList.map cn = us → Calls P f vs w (fun e w' => ∃ v, e = .returned v ∧ ∃ x, cn v = u x ∧ Below w.heap.size w w' ∧ (∀ e ∈ N x, e.at w.heap.size w') ∧ (N x).Pairwise Ent.apart)
/-- .. and may turn the call's own blocks: what is known of them behind it. -/
def Mut (P : Program) (f : FuncId) (us : List Value) (w0 : World) (O : List Ent) {X : Type} (u : X → Value) (O' : X → List Ent) : Prop :=
  ∀ w F, Hp w0 (F ++ O) w → ∀ vs : Array Value, vs.toList.map cn = us → Calls P f vs w (fun e w' => ∃ v, e = .returned v ∧ ∃ x, cn v = u x ∧ Hp w0 (F ++ O' x) w')

section
variable {P : Program} {n : Nat} {w0 : World} {O : List Ent} {E : Env} {Q : Exit → Act → World → Prop} {ops : Array Oper} {o : Oper} {rest : List Oper} {d : Nat}

/-- What is known of a function that is called: it has a body, and is not the one that the model treats apart. -/
def Known (P : Program) (f : FuncId) : Prop := ∃ fn, P.funcs[f]? = some fn ∧ fn.body.isSome = true ∧ (fn.name == "runtime.NumGoroutine") = false
theorem Known.mk' {f : FuncId} {fn : Func} (h : P.funcs[f]? = some fn) (h1 : (fn.body.isSome && !(fn.name == "runtime.NumGoroutine")) = true) : Known P f := by
  simp only [Bool.and_eq_true, Bool.not_eq_true'] at h1
  exact ⟨fn, h, h1.1, h1.2⟩

theorem run_callFunc {f : FuncId} (h : Known P f) (args : Array Value) (w : World) : (callFunc f args).run P w = .ok (.enter f args) w := by
  obtain ⟨fn, h1, h2, h3⟩ := h
  obtain ⟨c, hb⟩ := Option.isSome_iff_exists.1 h2
  have h3' : ¬ fn.name = "runtime.NumGoroutine" := by simpa using h3
  simp [callFunc, program, Sem.run, h1, h3', hb]

/-- The operands read as these. -/
def Opds (E : Env) : List Operand → List Value → Prop
  | [], us => us = []
  | x :: xs, us => ∃ u r, us = u :: r ∧ E.opd x = some u ∧ Opds E xs r
theorem Opds.nil : Opds E [] [] := rfl
theorem Opds.cons {x : Operand} {xs : List Operand} {u : Value} {us : List Value} (h : E.opd x = some u) (hs : Opds E xs us) : Opds E (x :: xs) (u :: us) := ⟨u, us, rfl, h, hs⟩
theorem Opds.map {xs : List Operand} {us : List Value} (h : Opds E xs us) {op : Op} {ρ : Operand → Value} (hE : Ev E op ρ) (hm : ∀ x ∈ xs, x ∈ op.operands) : (xs.map ρ).map cn = us := by
  induction xs generalizing us with
  | nil => exact h.symm
  | cons x xs ih =>
    obtain ⟨u, r, rfl, h1, h2⟩ := h
    simp only [List.map_cons, hE.get (hm x List.mem_cons_self) h1, ih h2 (fun y hy => hm y (List.mem_cons_of_mem _ hy))]

/-- The value of the callee, in a call: the function f with captured variables cs. -/
theorem run_call {callee : Operand} {args : Array Operand} {ts : Array TypeId} {f : FuncId} {cs : Array Value} (ho : o.op = .call ⟨.value callee, args, ts⟩) (hk : Known P f) (hc : E.opd callee = some (.func (.func f) #[] cs)) {ρ : Operand → Value} {w : World} (hE : Ev E o.op ρ) :
    (execOp ρ o).run P w = .ok (.enter f (args.map ρ ++ cs)) w := by
  have h1 := cn_func (hE.get (x := callee) (by simp [ho, Op.operands, Call.operands]) hc)
  simp [execOp, ho, resolve, h1, Deferred.ofValue, invoke, run_callFunc hk]

theorem args_map {callee : Operand} {args : Array Operand} {ts : Array TypeId} {us : List Value} {cs : Array Value} (ho : o.op = .call ⟨.value callee, args, ts⟩) (hx : Opds E args.toList us) {ρ : Operand → Value} (hE : Ev E o.op ρ) :
    (args.map ρ ++ cs).toList.map cn = us ++ cs.toList.map cn := by
  have := hx.map hE (fun x hx => by simp [ho, Op.operands, Call.operands]; exact .inr (by simpa using hx))
  simp [← this]

theorem yq_call {callee : Operand} {args : Array Operand} {ts : Array TypeId} {f : FuncId} {us : List Value} {cs : Array Value} {u : Value} (ho : o.op = .call ⟨.value callee, args, ts⟩) (hk : Known P f) (hc : E.opd callee = some (.func (.func f) #[] cs)) (hx : Opds E args.toList us)
    (h : ∀ w, Hp w0 O w → Pure P f (us ++ cs.toList.map cn) w u) : YQ P w0 O E o u := by
  intro ρ w hE hw
  rw [run_call ho hk hc hE]
  exact (h w hw _ (args_map ho hx hE)).mono fun e w' ⟨v, h1, h2, h3⟩ => ⟨v, h1, h2, h3⟩

theorem yn_call {callee : Operand} {args : Array Operand} {ts : Array TypeId} {f : FuncId} {us : List Value} {cs : Array Value} {X : Type} {u : X → Value} {N : X → List Ent} (ho : o.op = .call ⟨.value callee, args, ts⟩) (hk : Known P f) (hc : E.opd callee = some (.func (.func f) #[] cs)) (hx : Opds E args.toList us)
    (h : ∀ w, Hp w0 O w → New P f (us ++ cs.toList.map cn) w u N) : YN P w0 O E o u N := by
  intro ρ w hE hw
  rw [run_call ho hk hc hE]
  exact (h w hw _ (args_map ho hx hE)).mono fun e w' ⟨v, h1, h2⟩ => ⟨v, h1, h2⟩

theorem yc_call {callee : Operand} {args : Array Operand} {ts : Array TypeId} {f : FuncId} {us : List Value} {cs : Array Value} {X : Type} {u : X → Value} {O' : X → List Ent} (ho : o.op = .call ⟨.value callee, args, ts⟩) (hk : Known P f) (hc : E.opd callee = some (.func (.func f) #[] cs)) (hx : Opds E args.toList us)
    (h : Mut P f (us ++ cs.toList.map cn) w0 O u O') : YC P w0 O E o u O' := by
  intro ρ w F hE hw
  rw [run_call ho hk hc hE]
  exact (h w F hw _ (args_map ho hx hE)).mono fun e w' ⟨v, h1, h2⟩ => ⟨v, h1, h2⟩

/-- A call of a function that is named. -/
theorem args_map' {callee : Operand} {args : Array Operand} {ts : Array TypeId} {us : List Value} (ho : o.op = .call ⟨.value callee, args, ts⟩) (hx : Opds E args.toList us) {ρ : Operand → Value} (hE : Ev E o.op ρ) :
    (args.map ρ ++ #[]).toList.map cn = us := by
  have := hx.map hE (fun x hx => by simp [ho, Op.operands, Call.operands]; exact .inr (by simpa using hx))
  simp [← this]
theorem yq_callf {args : Array Operand} {ts : Array TypeId} {f : FuncId} {us : List Value} {u : Value} (ho : o.op = .call ⟨.value (.func f), args, ts⟩) (hk : Known P f) (hx : Opds E args.toList us)
    (h : ∀ w, Hp w0 O w → Pure P f us w u) : YQ P w0 O E o u := by
  intro ρ w hE hw
  rw [run_call ho hk rfl hE]
  exact (h w hw _ (args_map' ho hx hE)).mono fun e w' ⟨v, h1, h2, h3⟩ => ⟨v, h1, h2, h3⟩
theorem yn_callf {args : Array Operand} {ts : Array TypeId} {f : FuncId} {us : List Value} {X : Type} {u : X → Value} {N : X → List Ent} (ho : o.op = .call ⟨.value (.func f), args, ts⟩) (hk : Known P f) (hx : Opds E args.toList us)
    (h : ∀ w, Hp w0 O w → New P f us w u N) : YN P w0 O E o u N := by
  intro ρ w hE hw
  rw [run_call ho hk rfl hE]
  exact (h w hw _ (args_map' ho hx hE)).mono fun e w' ⟨v, h1, h2⟩ => ⟨v, h1, h2⟩

/-- Entries that are taken out of what is owned: one, or a row of them. -/
inductive Rem : List Ent → List Ent → List Ent → Prop
  | here {e : Ent} {O : List Ent} : Rem (e :: O) [e] O
  | hereS {S O : List Ent} : Rem (S ++ O) S O
  | there {e : Ent} {O S O' : List Ent} : Rem O S O' → Rem (e :: O) S (e :: O')
  | thereS {T O S O' : List Ent} : Rem O S O' → Rem (T ++ O) S (T ++ O')
inductive Pick : List Ent → List Ent → List Ent → Prop
  | nil {O : List Ent} : Pick O [] O
  | take {O S O1 M F : List Ent} : Rem O S O1 → Pick O1 M F → Pick O (S ++ M) F
theorem Rem.perm {O S O' : List Ent} (h : Rem O S O') : O.Perm (S ++ O') := by
  induction h with
  | here => exact List.Perm.refl _
  | hereS => exact List.Perm.refl _
  | there _ ih => exact (List.Perm.cons _ ih).trans List.perm_middle.symm
  | thereS _ ih =>
    refine (List.Perm.append_left _ ih).trans ?_
    rw [← List.append_assoc, ← List.append_assoc]
    exact List.Perm.append_right _ List.perm_append_comm
theorem Pick.perm {O M F : List Ent} (h : Pick O M F) : O.Perm (F ++ M) := by
  induction h with
  | nil => simp
  | take h1 _ ih =>
    refine h1.perm.trans ((List.Perm.append_left _ ih).trans ?_)
    rw [← List.append_assoc]
    refine (List.Perm.append_right _ List.perm_append_comm).trans ?_
    rw [List.append_assoc]
theorem Hp.perm' {O' : List Ent} {w : World} (h : Hp w0 O w) (hp : O.Perm O') : Hp w0 O' w :=
  ⟨h.below, fun e he => h.ents e (hp.mem_iff.2 he), h.apart.perm hp (fun h => apart_symm h)⟩
theorem yc_callf {args : Array Operand} {ts : Array TypeId} {f : FuncId} {us : List Value} {X : Type} {u : X → Value} {M F0 : List Ent} {M' : X → List Ent} (ho : o.op = .call ⟨.value (.func f), args, ts⟩) (hk : Known P f) (hx : Opds E args.toList us) (hp : Pick O M F0)
    (h : Mut P f us w0 M u M') : YC P w0 O E o u (fun x => M' x ++ F0) := by
  intro ρ w F hE hw
  rw [run_call ho hk rfl hE]
  have hw' : Hp w0 ((F ++ F0) ++ M) w := by
    rw [List.append_assoc]
    exact hw.perm' (List.Perm.append_left F hp.perm)
  refine (h w (F ++ F0) hw' _ (args_map' ho hx hE)).mono fun e w' ⟨v, h1, x, h2, h3⟩ => ⟨v, h1, x, h2, ?_⟩
  rw [List.append_assoc] at h3
  exact h3.perm' (List.Perm.append_left F List.perm_append_comm)

/-! ### entry and return -/
def argsFrom : Nat → List Value → Env
  | _, [] => []
  | i, u :: us => (i, u) :: argsFrom (i + 1) us
theorem argsFrom_get : ∀ (us : List Value) (i t : Nat) (u : Value), (argsFrom i us).get t = some u → i ≤ t ∧ us[t - i]? = some u
  | [], i, t, u, h => by simp [argsFrom, Env.get] at h
  | v :: us, i, t, u, h => by
    simp only [argsFrom, Env.get] at h
    cases hb : Nat.beq i t with
    | true =>
      have e : i = t := Nat.eq_of_beq_eq_true hb
      subst e
      rw [hb] at h
      exact ⟨Nat.le_refl _, by simpa using h⟩
    | false =>
      rw [hb] at h
      obtain ⟨h1, h2⟩ := argsFrom_get us (i + 1) t u h
      refine ⟨by omega, ?_⟩
      rw [show t - i = t - (i + 1) + 1 by omega]
      simpa using h2
theorem models_args {vs : Array Value} {us : List Value} (h : vs.toList.map cn = us) (hn : us.length ≤ n) : Models n (argsFrom 0 us) { tmps := vs ++ Array.replicate (n - vs.size) undef, defers := [] } := by
  have hl : vs.size = us.length := by rw [← h]; simp
  refine ⟨by simp; omega, rfl, fun t u ht => ?_⟩
  obtain ⟨_, h2⟩ := argsFrom_get us 0 t u ht
  subst h
  simp only [Nat.sub_zero, List.getElem?_map, Option.map_eq_some_iff] at h2
  obtain ⟨v, hv, hu⟩ := h2
  have hlt : t < vs.size := by
    have := (List.getElem?_eq_some_iff.1 hv).1
    simpa using this
  refine ⟨v, ?_, hu⟩
  rw [Array.getElem?_append_left hlt]
  simpa using hv

/-- How a body ends. -/
abbrev Ends (P : Program) (fn : Func) (R : Value → World → Prop) : Exit → Act → World → Prop := bodyPost P fn (fun e w' => ∃ v, e = .returned v ∧ R (cn v) w')

theorem calls_enter {f : FuncId} {fn : Func} {c : Code} {us : List Value} {w : World} {R : Value → World → Prop} (hf : P.funcs[f]? = some fn) (hb : fn.body = some c) (hn : fn.ntmps = n) (hl : us.length ≤ n)
    (h : V P n w [] (argsFrom 0 us) c (Ends P fn R)) (vs : Array Value) (hv : vs.toList.map cn = us) : Calls P f vs w (fun e w' => ∃ v, e = .returned v ∧ R (cn v) w') := by
  refine calls_of_wp hf hb ?_
  rw [hn]
  exact h _ _ (models_args hv hl) (Hp.refl w)

theorem Pure.enter {f : FuncId} {fn : Func} {c : Code} {us : List Value} {w : World} {u : Value} (hf : P.funcs[f]? = some fn) (hb : fn.body = some c) (hn : fn.ntmps = n) (hl : us.length ≤ n)
    (h : V P n w [] (argsFrom 0 us) c (Ends P fn (fun u' w' => u' = u ∧ Below w.heap.size w w'))) : Pure P f us w u := calls_enter hf hb hn hl h
theorem New.enter {f : FuncId} {fn : Func} {c : Code} {us : List Value} {w : World} {X : Type} {u : X → Value} {N : X → List Ent} (hf : P.funcs[f]? = some fn) (hb : fn.body = some c) (hn : fn.ntmps = n) (hl : us.length ≤ n)
    (h : V P n w [] (argsFrom 0 us) c (Ends P fn (fun u' w' => ∃ x, u' = u x ∧ Below w.heap.size w w' ∧ (∀ e ∈ N x, e.at w.heap.size w') ∧ (N x).Pairwise Ent.apart))) : New P f us w u N := calls_enter hf hb hn hl h
/-- A function that turns its caller's blocks is walked from the caller's world on. -/
theorem Mut.enter {f : FuncId} {fn : Func} {c : Code} {us : List Value} {X : Type} {u : X → Value} {O' : X → List Ent} (hf : P.funcs[f]? = some fn) (hb : fn.body = some c) (hn : fn.ntmps = n) (hl : us.length ≤ n)
    (h : ∀ F, V P n w0 (F ++ O) (argsFrom 0 us) c (Ends P fn (fun u' w' => ∃ x, u' = u x ∧ Hp w0 (F ++ O' x) w'))) : Mut P f us w0 O u O' := by
  intro w F hw vs hv
  refine calls_of_wp hf hb ?_
  rw [hn]
  exact h F _ _ (models_args hv hl) hw

theorem cn_of_ne {v u : Value} (h : cn v = u) (hn : ∀ z, u ≠ .tuple z) : cn1 v = u := by
  cases v <;> simp [cn] at h ⊢ <;> try exact h
  exact absurd h.symm (hn _)

theorem ret1 {fn : Func} {R : Value → World → Prop} {t : Tmp} {u : Value} (hr : fn.results = #[.tmp t]) (hu : E.get t = some u) (h : ∀ w, Hp w0 O w → R u w) : VE n w0 O E (Ends P fn R) .ret := by
  intro a w ha hw
  obtain ⟨v, h1, h2⟩ := ha.get t u hu
  exact bodyPost_ret (results_tmp hr _ _ _) ha.defers ⟨v, by simp [h1], by rw [h2]; exact h w hw⟩
theorem ret0 {fn : Func} {R : Value → World → Prop} (hr : fn.results = #[]) (h : ∀ w, Hp w0 O w → R (.tuple #[]) w) : VE n w0 O E (Ends P fn R) .ret := by
  intro a w ha hw
  exact bodyPost_ret (results_none hr _ _ _) ha.defers ⟨_, rfl, by simpa [cn] using h w hw⟩
theorem ret2 {fn : Func} {R : Value → World → Prop} {t s : Tmp} {u x : Value} (hr : fn.results = #[.tmp t, .tmp s]) (hu : E.get t = some u) (hx : E.get s = some x) (hun : ∀ z, u ≠ .tuple z) (hxn : ∀ z, x ≠ .tuple z) (h : ∀ w, Hp w0 O w → R (.tuple #[u, x]) w) : VE n w0 O E (Ends P fn R) .ret := by
  intro a w ha hw
  obtain ⟨v, h1, h2⟩ := ha.get t u hu
  obtain ⟨y, h3, h4⟩ := ha.get s x hx
  refine bodyPost_ret (results_tmp2 hr _ _ _) ha.defers ⟨_, rfl, ?_⟩
  simp [h1, h3, cn, cn_of_ne h2 hun, cn_of_ne h4 hxn, h w hw]
theorem results_tmp3 {fn : Func} {t u s : Tmp} (h : fn.results = #[.tmp t, .tmp u, .tmp s]) (tmps : Array Value) (P : Program) (w : World) :
    (results fn tmps).run P w = .ok (.tuple #[tmps.getD t undef, tmps.getD u undef, tmps.getD s undef]) w := by
  simp [results, h]
theorem ret3 {fn : Func} {R : Value → World → Prop} {t s r : Tmp} {u x y : Value} (hr : fn.results = #[.tmp t, .tmp s, .tmp r]) (hu : E.get t = some u) (hx : E.get s = some x) (hy : E.get r = some y) (hun : ∀ z, u ≠ .tuple z) (hxn : ∀ z, x ≠ .tuple z) (hyn : ∀ z, y ≠ .tuple z) (h : ∀ w, Hp w0 O w → R (.tuple #[u, x, y]) w) : VE n w0 O E (Ends P fn R) .ret := by
  intro a w ha hw
  obtain ⟨v1, h1, h2⟩ := ha.get t u hu
  obtain ⟨v2, h3, h4⟩ := ha.get s x hx
  obtain ⟨v3, h5, h6⟩ := ha.get r y hy
  refine bodyPost_ret (results_tmp3 hr _ _ _) ha.defers ⟨_, rfl, ?_⟩
  simp [h1, h3, h5, cn, cn_of_ne h2 hun, cn_of_ne h4 hxn, cn_of_ne h6 hyn, h w hw]

/-! ### struct values -/
/-- parts that are laid into cells -/
def fillC (places : List (Nat × Nat)) : List (Nat × Value) → List Value → Option (List Value)
  | [], cells => some cells
  | (i, v) :: r, cells =>
    match places[i]? with
    | none => none
    | some (off, size) =>
      if v.cells.size ≠ size ∨ off + v.cells.size > cells.length then none
      else fillC places r (setAt cells off v.cells.toList)
theorem setAt_map (f : Value → Value) (us : List Value) (k : Nat) (cs : List Value) : (setAt us k cs).map f = setAt (us.map f) k (cs.map f) := by
  induction cs generalizing us k with
  | nil => rfl
  | cons c cs ih => simp only [setAt, List.map_cons, ih, List.map_set]
theorem foldl_setAt (cs : List Value) (off : Nat) : ∀ (j : Nat) (cells : Array Value), ((cs.zipIdx j).foldl (fun (cs : Array Value) (x : Value × Nat) => cs.setIfInBounds (off + x.2) x.1) cells).toList = setAt cells.toList (off + j) cs := by
  induction cs with
  | nil => intro j cells; rfl
  | cons c cs ih =>
    intro j cells
    simp only [List.zipIdx_cons, List.foldl_cons, setAt]
    rw [ih (j + 1)]
    simp [Nat.add_assoc]
theorem fill_fillC (places : Array (Nat × Nat)) : ∀ (parts : List (Nat × Value)) (cells : Array Value), (Instr.fill (places[·]?) cells parts).map Array.toList = fillC places.toList parts cells.toList
  | [], cells => rfl
  | (i, v) :: r, cells => by
    simp only [Instr.fill, fillC, Array.getElem?_toList]
    cases places[i]? with
    | none => rfl
    | some p =>
      obtain ⟨off, size⟩ := p
      dsimp only
      by_cases h : v.cells.size ≠ size ∨ off + v.cells.size > cells.size
      · rw [if_pos (by simpa using h), if_pos (by simpa using h)]; rfl
      · rw [if_neg (by simpa using h), if_neg (by simpa using h), fill_fillC places r]
        congr 1
        have := foldl_setAt v.cells.toList off 0 cells
        simp only [Nat.add_zero] at this
        rw [← this]
        congr 1
        rw [← Array.foldl_toList, Array.toList_zipIdx]
theorem cells_cn1 {v : Value} (h : ∀ z, v ≠ .tuple z) : (cn v).cells.toList = v.cells.toList.map cn0 := by
  cases v <;> simp [cn, cn1, cn0, Value.cells] at h ⊢
theorem fillC_cn (places : List (Nat × Nat)) : ∀ (parts : List (Nat × Value)) (cells : List Value), (∀ p ∈ parts, ∀ z, p.2 ≠ .tuple z) →
    fillC places (parts.map fun p => (p.1, cn p.2)) (cells.map cn0) = (fillC places parts cells).map (List.map cn0)
  | [], cells, _ => rfl
  | (i, v) :: r, cells, h => by
    have hv := cells_cn1 (h (i, v) List.mem_cons_self)
    have hs : (cn v).cells.size = v.cells.size := by have := congrArg List.length hv; simpa using this
    simp only [List.map_cons, fillC]
    cases places[i]? with
    | none => rfl
    | some p =>
      obtain ⟨off, size⟩ := p
      dsimp only
      rw [hs, List.length_map]
      split
      · rfl
      · rw [hv, ← setAt_map]
        exact fillC_cn places r _ (fun p hp => h p (List.mem_cons_of_mem _ hp))

/-- What is known of a struct type: its zero cells, and where its fields lie. -/
def Lay (P : Program) (t : TypeId) (zero : List Value) (places : List (Nat × Nat)) : Prop :=
  ∃ fs : Array Field, P.underlying t = some (.struct fs) ∧ (P.info? t).bind (·.zero) = some (.agg zero.toArray) ∧ (fs.toList.mapM fun f => (P.info? f.type).map fun i => (f.offset, i.size)) = some places

theorem Lay.mk' {t : TypeId} {zero : List Value} {places : List (Nat × Nat)} (h : (match P.underlying t with | some (.struct fs) => (fs.toList.mapM fun f => (P.info? f.type).map fun i => (f.offset, i.size)) | _ => none) = some places) (hz : (P.info? t).bind (·.zero) = some (.agg zero.toArray)) : Lay P t zero places := by
  cases hu : P.underlying t with
  | none => rw [hu] at h; cases h
  | some d =>
    rw [hu] at h
    cases d <;> simp only at h <;> first | (cases h; done) | exact ⟨_, hu, hz, h⟩

theorem run_places (l : List Field) : ∀ places, (l.mapM fun f => (P.info? f.type).map fun i => (f.offset, i.size)) = some places → ∀ w : World,
    (l.mapM (m := Sem) fun f => do pure (f.offset, ← sizeOf f.type)).run P w = .ok places w := by
  induction l with
  | nil => intro places h w; simp at h; subst h; rfl
  | cons f l ih =>
    intro places h w
    simp only [List.mapM_cons, Option.bind_eq_bind, Option.bind_eq_some_iff, Option.map_eq_some_iff] at h
    obtain ⟨p, ⟨i, hi, rfl⟩, ps, hps, h⟩ := h
    cases h
    have := ih ps hps w
    simp [List.mapM_cons, sizeOf, typeInfo, program, Sem.run, hi] at this ⊢
    simp [this]

theorem run_build {t : TypeId} {zero : List Value} {places : List (Nat × Nat)} (h : Lay P t zero places) (parts : Array (Nat × Value)) {cells : List Value} (hc : fillC places parts.toList zero = some cells) (w : World) : (Instr.build t parts).run P w = .ok (.agg cells.toArray) w := by
  obtain ⟨fs, h1, h2, h3⟩ := h
  have hp := run_places (P := P) fs.toList places h3 w
  have hp' : (fs.mapM (m := Sem) fun f => do pure (f.offset, ← sizeOf f.type)).run P w = .ok places.toArray w := by
    rw [Array.mapM_eq_mapM_toList]
    rw [Sem.run_map]
    rw [hp]; rfl
  have hf := fill_fillC places.toArray parts.toList zero.toArray
  rw [hc] at hf
  obtain ⟨cs, hcs, rfl⟩ := Option.map_eq_some_iff.1 hf
  simp only [Instr.build, Sem.run_bind, info_zero h2, Result.andThen_ok, run_underlying h1, hp', Value.cells, hcs, Sem.run_pure]

theorem yr_build {t : TypeId} {parts : Array (Nat × Operand)} {zero cells : List Value} {places : List (Nat × Nat)} {us : List Value} (ho : o.op = .build t parts) (hL : Lay P t zero places) (hz : zero.map cn0 = zero) (hx : Opds E (parts.toList.map (·.2)) us) (hn : ∀ u ∈ us, ∀ z, u ≠ .tuple z)
    (hc : fillC places ((parts.toList.map (·.1)).zip us) zero = some cells) : YR P E o (.agg cells.toArray) := yr_of fun ρ w hE => by
  have hm := hx.map hE (fun x hx => by simp [ho, Op.operands] at hx ⊢; exact hx)
  have hparts : ((parts.map fun (i, x) => (i, ρ x)).toList.map fun p => (p.1, cn p.2)) = (parts.toList.map (·.1)).zip us := by
    rw [← hm]
    simp only [Array.toList_map, List.map_map, List.zip_map']
    rfl
  have hnt : ∀ p ∈ (parts.map fun (i, x) => (i, ρ x)).toList, ∀ z, p.2 ≠ .tuple z := by
    intro p hp z he
    simp only [Array.toList_map, List.mem_map] at hp
    obtain ⟨⟨i, x⟩, hix, rfl⟩ := hp
    simp only at he
    have hu : cn (ρ x) ∈ us := by
      rw [← hm]
      simp only [List.map_map, List.mem_map]
      exact ⟨(i, x), hix, rfl⟩
    have := hn _ hu (z.map cn1)
    rw [he] at this
    exact this rfl
  have hcn := fillC_cn places (parts.map fun (i, x) => (i, ρ x)).toList zero hnt
  rw [hparts, hz, hc] at hcn
  obtain ⟨cs, hcs, hcs'⟩ := Option.map_eq_some_iff.1 hcn.symm
  refine ⟨.agg cs.toArray, ?_, by simp [cn, cn1, ← hcs']⟩
  have := run_build hL (parts.map fun (i, x) => (i, ρ x)) hcs w
  simp only [execOp, ho, Sem.run_bind, this, Result.andThen_ok, Sem.run_pure]

end
end Go.Proofs.Ytacjcomjnabmhaa
