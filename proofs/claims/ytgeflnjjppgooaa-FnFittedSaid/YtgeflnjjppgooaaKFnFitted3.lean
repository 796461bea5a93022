/- Own texts of this claim, merged: Qa, Qb, QCore, QRules, QCalls, QMake, QRegion, QKit, ShortQ, QWBase, QWFl. -/
import Derived.Conc.CompanyDraw
import Derived.Calls
import Derived.Test.YtgeflnjjppgooaaProg
import Derived.KernelRfl
import Derived.Test.YtgeflnjjppgooaaKFnFitted2
namespace Go.Proofs.Ytgeflnjjppgooaa.Q
open Go Go.Conc Go.RowKit
/-- The world has grown; nothing that was there has turned, but the count of draws. -/
abbrev Ext (w w1 : World) : Prop := Below w.heap.size w w1
theorem Ext.trans {a b c : World} (h : Ext a b) (k : Ext b c) : Ext a c := Below.trans h (k.mono h.size)
theorem Ext.refl (w : World) : Ext w w := Below.refl _ _
theorem Ext.drew (w : World) (d : Nat) : Ext w (w.at d) := ⟨rfl, rfl, rfl, Nat.le_refl _, fun _ _ => rfl⟩
/-- What a stretch that is no step of its own comes to (starting others, joining them; a store to a cell that is shared): K holds of where the goroutine stands behind it, and of the world. -/
class PhC where
  Ph : Program → Bool → Goroutine → World → (Goroutine → World → Prop) → Prop
  /-- Which goroutines walk: 0 (true), others (false). -/
  M : Type
  toB : M → Bool
variable [PhC]
instance : CoeOut PhC.M Bool := ⟨PhC.toB⟩
/-- The step from (g, v): whatever world it is that v is a view of. -/
def StepTo (P : Program) (m : Bool) (g : Goroutine) (v : World) (g' : Goroutine) (v' : World) : Prop :=
  ∀ w, View v w → ∃ w' es, stepG P m g w = .go g' w' es ∧ Chg v v' w w' ∧ ∀ e ∈ es, EvOk v v'.heap.size e
/-- From (g, v) the goroutine comes to a stop S by steps of its own. -/
inductive Go3 (P : Program) (m : Bool) (S : Goroutine → World → Prop) : Goroutine → World → Prop
  | stop {g : Goroutine} {v : World} (h : ∀ v1, Ext v v1 → S g v1) : Go3 P m S g v
  | step {g : Goroutine} {v : World} (hs : g.status = .running) (g' : World → Goroutine) (v' : World → World)
      (h : ∀ v1, Ext v v1 → StepTo P m g v1 (g' v1) (v' v1)) (hn : ∀ v1, Ext v v1 → Go3 P m S (g' v1) (v' v1)) : Go3 P m S g v
  | phase {g : Goroutine} {v : World} (K : World → Goroutine → World → Prop) (h : ∀ v1, Ext v v1 → PhC.Ph P m g v1 (K v1)) (hn : ∀ v1, Ext v v1 → ∀ g' v', K v1 g' v' → Go3 P m S g' v') : Go3 P m S g v
section
variable {P : Program} {m : Bool} {S : Goroutine → World → Prop} {g : Goroutine} {v v1 : World}
theorem Go3.ext (h : Go3 P m S g v) (hx : Ext v v1) : Go3 P m S g v1 := by
  cases h with
  | stop h => exact .stop fun v2 h2 => h v2 (hx.trans h2)
  | step hs g' v' h hn => exact .step hs g' v' (fun v2 h2 => h v2 (hx.trans h2)) (fun v2 h2 => hn v2 (hx.trans h2))
  | phase K h hn => exact .phase K (fun v2 h2 => h v2 (hx.trans h2)) (fun v2 h2 => hn v2 (hx.trans h2))
theorem Go3.mk (hs : g.status = .running) (h : ∀ v1, Ext v v1 → ∃ g' v', StepTo P m g v1 g' v' ∧ Go3 P m S g' v') : Go3 P m S g v := by
  classical
  refine .step hs (fun v1 => if hx : Ext v v1 then (h v1 hx).choose else g) (fun v1 => if hx : Ext v v1 then (h v1 hx).choose_spec.choose else v) (fun v1 hx => ?_) (fun v1 hx => ?_)
  · rw [dif_pos hx, dif_pos hx]; exact (h v1 hx).choose_spec.choose_spec.1
  · rw [dif_pos hx, dif_pos hx]; exact (h v1 hx).choose_spec.choose_spec.2
omit [PhC] in
theorem StepTo.ctl {g' : Goroutine} (h : ∀ w, stepG P m g w = .go g' w) : StepTo P m g v g' v := fun w hw => ⟨w, #[], h w, .refl hw, by simp⟩
/-- A move of control: it looks at no world. -/
theorem Go3.ctl {g' : Goroutine} (hs : g.status = .running) (h : ∀ w, stepG P m g w = .go g' w) (hn : Go3 P m S g' v) : Go3 P m S g v :=
  .mk hs fun v1 hx => ⟨g', v1, .ctl h, hn.ext hx⟩
end
/-- Where the walk goes on behind a piece of code. -/
def Aft (P : Program) (m : Bool) (S : Goroutine → World → Prop) (b : Frame) (k : List Item) (cs : List Frame) : Exit → Act → World → Prop
  | .normal, a, w => Go3 P m S (G (b.at a k) cs) w
  | .exit id, a, w => ∃ k', exitTo id k = some k' ∧ Go3 P m S (G (b.at a k') cs) w
  | .ret, a, w => ∀ todo, Go3 P m S (G { b.at a todo with mode := .returning } cs) w
  | _, _, _ => False
theorem Aft.push {P : Program} {m : Bool} {S : Goroutine → World → Prop} {b : Frame} {x : Item} {k : List Item} {cs : List Frame} {e : Exit} {a : Act} {w : World} (hx : x.plain = true) (he : e ≠ .normal)
    (h : Aft P m S b k cs e a w) : Aft P m S b (x :: k) cs e a w := by
  cases e with
  | normal => exact absurd rfl he
  | exit id => obtain ⟨k', hk, hg⟩ := h; exact ⟨k', by cases x <;> simp_all [exitTo, Item.plain], hg⟩
  | ret => exact h
  | goto l => exact h
  | panic ch => exact h
  | outgrown => exact h
def Wq (P : Program) (c : Code) (Q : Exit → Act → World → Prop) (a : Act) (w : World) : Prop :=
  ∀ (m : PhC.M) (b : Frame) (k : List Item) (cs : List Frame) (S : Goroutine → World → Prop), b.kind ≠ .early →
    (∀ e a' w', Q e a' w' → Aft P m S b k cs e a' w') → Go3 P m S (G (b.at a (.code c :: k)) cs) w
/-- What the body of a callee must achieve. -/
def bodyPostQ (P : Program) (fn : Func) (R : Ending → World → Prop) : Exit → Act → World → Prop
  | .normal, a, w | .ret, a, w => a.defers = [] ∧ ∀ w1, Ext w w1 → ∃ v, (results fn a.tmps).run P w1 = .ok v w1 ∧ R (.returned v) w
  | _, _, _ => False
/-- A contract. -/
def CallsQ (P : Program) (f : FuncId) (args : Array Value) (w : World) (R : Ending → World → Prop) : Prop :=
  ∃ fn c, P.funcs[f]? = some fn ∧ fn.body = some c ∧
    Wq P c (bodyPostQ P fn R) { tmps := args ++ Array.replicate (fn.ntmps - args.size) undef, defers := [] } w
section
variable {P : Program} {Q : Exit → Act → World → Prop} {a : Act} {w : World}
theorem wq_mono {c : Code} {Q' : Exit → Act → World → Prop} (h : Wq P c Q a w) (hq : ∀ e a w, Q e a w → Q' e a w) : Wq P c Q' a w :=
  fun m b k cs S hk hc => h m b k cs S hk fun e a' w' q => hc e a' w' (hq e a' w' q)
theorem wq_skip (h : Q .normal a w) : Wq P .skip Q a w := fun _ _ _ _ _ _ hc => .ctl rfl (fun _ => stepG_skip) (hc _ _ _ h)
theorem wq_ret (h : Q .ret a w) : Wq P .ret Q a w := fun _ _ _ _ _ _ hc => .ctl rfl (fun _ => stepG_ret') (hc _ _ _ h _)
theorem wq_exit {id : Nat} (h : Q (.exit id) a w) : Wq P (.exit id) Q a w := fun m b k cs S _ hc => by
  obtain ⟨k', hk', hg⟩ := hc _ _ _ h
  exact .ctl rfl (fun _ => stepG_exit hk') hg
theorem wq_seq {x y : Code} (h : Wq P x (Exit.then (Wq P y Q) Q) a w) : Wq P (.seq x y) Q a w := by
  intro m b k cs S hk hc
  refine .ctl rfl (fun _ => stepG_seq) (h m b (.code y :: k) cs S hk fun e a' w' q => ?_)
  cases e with
  | normal => exact q m b k cs S hk hc
  | exit id => exact (hc _ _ _ q).push rfl (by simp)
  | ret => exact (hc _ _ _ q).push (x := .code y) rfl (by simp)
  | goto l => exact hc _ _ _ q
  | panic ch => exact hc _ _ _ q
  | outgrown => exact hc _ _ _ q
theorem wq_cond {c : Operand} {x y : Code} {t : Bool} (hc : a.eval c = .bool t) (h : Wq P (if t then x else y) Q a w) : Wq P (.cond c x y) Q a w :=
  fun m b k cs S hk hq => .ctl rfl (fun _ => stepG_cond hc) (h m b k cs S hk hq)
theorem wq_cond_split {c : Operand} {x y : Code} {t : Bool} (hc : a.eval c = .bool t) (ht : t = true → Wq P x Q a w) (hf : t = false → Wq P y Q a w) : Wq P (.cond c x y) Q a w := by
  refine wq_cond hc ?_
  cases t with
  | true => exact ht rfl
  | false => exact hf rfl
theorem wq_block {id : Nat} {c : Code} (h : Wq P c (Exit.inBlock id Q) a w) : Wq P (.block id c) Q a w := by
  intro m b k cs S hk hc
  refine .ctl rfl (fun _ => stepG_block) (h m b (.inBlock id :: k) cs S hk fun e a' w' q => ?_)
  cases e with
  | normal => exact .ctl rfl (fun _ => stepG_inBlock) (hc _ _ _ q)
  | exit id' =>
    by_cases hid : id' = id
    · simp only [Exit.inBlock, hid, if_true] at q
      exact ⟨k, by simp [exitTo, hid], hc _ _ _ q⟩
    · simp only [Exit.inBlock, hid, if_false] at q
      obtain ⟨k', hk', hg⟩ := hc _ _ _ q
      have : (id == id') = false := by simp; exact fun h => hid h.symm
      exact ⟨k', by simp [exitTo, this, hk'], hg⟩
  | ret => exact hc _ _ _ q
  | goto l => exact hc _ _ _ q
  | panic ch => exact hc _ _ _ q
  | outgrown => exact hc _ _ _ q
def uponQ (P : Program) (o : Oper) (a : Act) (next : Act → World → Prop) : Result Next → Prop
  | .ok (.value v) w' => next (a.put o.dst v) w'
  | .ok .skip w' => next (a.put o.dst undef) w'
  | .ok (.enter f args) w' => CallsQ P f args w' fun e w'' => ∃ v, e = .returned v ∧ next (a.put o.dst v) w''
  | _ => False
def OperWq (P : Program) (o : Oper) (a : Act) (w : World) (next : Act → World → Prop) (_Q : Exit → Act → World → Prop) : Prop :=
  uponQ P o a next ((execOp a.eval o).run P w)
/-- A call of a function value. -/
def vcall : Op → Bool
  | .call c => match c.callee with
    | .value (.tmp _) => true
    | _ => false
  | _ => false
/-- .. of which it is known what function it is. -/
def VEv (P : Program) (o : Oper) (a : Act) : Prop := ∃ x args ts g first cap fn, o.op = .call ⟨.value x, args, ts⟩ ∧ a.eval x = .func (.func g) first cap ∧ P.funcs[g]? = some fn ∧ frF fn = true
omit [PhC] in
theorem VEv.fr {o : Oper} (h : VEv P o a) : FR P (execOp a.eval o) := by
  obtain ⟨x, args, ts, g, first, cap, fn, ho, hx, hf, hb⟩ := h
  simp only [execOp, ho, resolve, hx, Deferred.ofValue]
  show FR P (callFunc g _)
  exact fr_callFunc hf hb _
/-- The operations of a region that are still to come. -/
def wqList (P : Program) (ops : Array Oper) (Q : Exit → Act → World → Prop) : List Oper → Act → World → Prop
  | [], a, w => Q .normal a w
  | o :: rest, a, w => (vcall o.op = true → VEv P o a) ∧ ∀ w1, Ext w w1 → if Region.wanted o (yielded ops a.tmps) then OperWq P o a w1 (wqList P ops Q rest) Q else wqList P ops Q rest (a.put o.dst undef) w1
def wqList1 (P : Program) (ops : Array Oper) (Q : Exit → Act → World → Prop) (o : Oper) (rest : List Oper) (a : Act) (w : World) : Prop :=
  if Region.wanted o (yielded ops a.tmps) then OperWq P o a w (wqList P ops Q rest) Q else wqList P ops Q rest (a.put o.dst undef) w
section
variable {ops : Array Oper} {rest : List Oper} {o : Oper}
theorem wqList_step (h : ∀ K : Act → World → Prop, (∀ a w, wqList P ops Q rest a w → K a w) → if Region.wanted o (yielded ops a.tmps) then OperWq P o a w K Q else K (a.put o.dst undef) w) : wqList1 P ops Q o rest a w :=
  h _ fun _ _ h => h
theorem wqList_plain (hg : o.guard = none) (h : ∀ K : Act → World → Prop, (∀ a w, wqList P ops Q rest a w → K a w) → OperWq P o a w K Q) : wqList1 P ops Q o rest a w :=
  wqList_step fun K hK => by simp only [Region.wanted, hg, if_true]; exact h K hK
theorem wqList_nil (h : Q .normal a w) : wqList P ops Q [] a w := h
end
omit [PhC] in
theorem leave_any {m : Bool} {fn : Func} {todo : List Item} {c : Frame} {cs : List Frame} {b : Frame} {a : Act} {w w' : World} {v : Value} (hn : b.kind = .normal) (hd : a.defers = []) (hf : P.funcs[b.fn]? = some fn) (hr : (results fn a.tmps).run P w = .ok v w') :
    stepG P m (G { b.at a todo with mode := .returning } (c :: cs)) w = .go (G (c.finish v) cs) w' (seen P b.fn ((results fn a.tmps).events P w #[])) := by
  simp [G, stepG, unwind, doReturn, Frame.at, hn, hd, hf, hr, GStep.after]
omit [PhC] in
theorem stepTo_oper {ops : Array Oper} {i : Nat} {rest : List Nat} {o : Oper} {b : Frame} {k : List Item} {cs : List Frame} {m : Bool} {v v' : World} {x : Next} {g' : Goroutine} (hfr : FR P (execOp a.eval o)) (hr : (execOp a.eval o).run P v = .ok x v')
    (hst : ∀ w w', (execOp a.eval o).run P w = .ok x w' → stepG P m (G (b.at a (.inRegion ops (i :: rest) :: k)) cs) w = .go g' w' (listed P b.fn a o w)) : StepTo P m (G (b.at a (.inRegion ops (i :: rest) :: k)) cs) v g' v' := fun w hw => by
  obtain ⟨w', h1, h2, h3⟩ := hfr v w hw x v' hr
  exact ⟨w', _, hst w w' h1, h2, fun e he => (h3 #[] e (mem_listed he)).resolve_left (by simp)⟩
/-- One operation, at its turn. -/
theorem go_op {ops : Array Oper} {i : Nat} {rest : List Nat} {o : Oper} {b : Frame} {k : List Item} {cs : List Frame} {m : PhC.M} {S : Goroutine → World → Prop} {K : Act → World → Prop}
    (ho : ops[i]? = some o) (hfr : FR P (execOp a.eval o)) (hk : b.kind ≠ .early) (h : ∀ w1, Ext w w1 → if Region.wanted o (yielded ops a.tmps) then OperWq P o a w1 K Q else K (a.put o.dst undef) w1)
    (hK : ∀ a' w', K a' w' → Go3 P m S (G (b.at a' (.inRegion ops rest :: k)) cs) w') : Go3 P m S (G (b.at a (.inRegion ops (i :: rest) :: k)) cs) w := by
  refine Go3.mk rfl fun w1 hx => ?_
  have hd := h w1 hx
  by_cases hw : Region.wanted o (yielded ops a.tmps) = true
  · rw [if_pos hw] at hd
    unfold OperWq at hd
    cases hr : (execOp a.eval o).run P w1 with
    | halt x w' => rw [hr] at hd; exact hd.elim
    | ok x w' =>
      rw [hr] at hd
      cases x with
      | value v => exact ⟨_, w', stepTo_oper hfr hr fun w w' h => stepG_value ho hw hk h, hK _ _ hd⟩
      | skip => exact ⟨_, w', stepTo_oper hfr hr fun w w' h => stepG_none ho hw hk h, hK _ _ hd⟩
      | enter f args =>
        obtain ⟨fn, c, hf, hbody, hwp⟩ := hd
        refine ⟨_, w', stepTo_oper hfr hr fun w w' h => stepG_enter ho hw hk h, ?_⟩
        rw [enter_at _ hf hbody]
        have hfin : ∀ v, (b.at a (.inRegion ops (i :: rest) :: k)).finish v = b.at (a.put o.dst v) (.inRegion ops rest :: k) := fun v => by rw [Frame.finish_at, ho]; rfl
        have hleave : ∀ (a' : Act) (w' : World) (todo : List Item), (a'.defers = [] ∧ ∀ w1, Ext w' w1 → ∃ v, (results fn a'.tmps).run P w1 = .ok v w1 ∧ ∃ v', Ending.returned v = .returned v' ∧ K (a.put o.dst v') w') →
            Go3 P m S (G { (base f).at a' todo with mode := .returning } (b.at a (.inRegion ops (i :: rest) :: k) :: cs)) w' := by
          rintro a' w' todo ⟨hdf, hall⟩
          refine Go3.mk rfl fun w1 hx => ?_
          obtain ⟨v, hr, v', hv, hp⟩ := hall w1 hx
          cases hv
          refine ⟨_, w1, fun w hw => ?_, (hK _ _ hp).ext hx⟩
          obtain ⟨w2, h1, h2, h3⟩ := fr_results fn a'.tmps w1 w hw v w1 hr
          refine ⟨w2, _, (leave_any (b := base f) rfl hdf hf h1).trans (by rw [hfin]), h2, fun e he => (h3 #[] e (mem_seen he)).resolve_left (by simp)⟩
        refine hwp m (base f) [] _ S (by simp [base]) fun e a' w' q => ?_
        cases e with
        | normal => exact .ctl rfl (fun _ => stepG_end) (hleave a' w' [] q)
        | ret => exact fun todo => hleave a' w' todo q
        | exit id => exact q.elim
        | goto l => exact q.elim
        | panic ch => exact q.elim
        | outgrown => exact q.elim
      | _ => exact hd.elim
  · rw [if_neg hw] at hd
    exact ⟨_, w1, .ctl fun _ => stepG_unwanted ho (by simpa using hw), hK _ _ hd⟩
end
end Go.Proofs.Ytgeflnjjppgooaa.Q

namespace Go.Proofs.Ytgeflnjjppgooaa.Q
open Go Go.Conc Go.RowKit
theorem fr_allv {P : Program} {l : List Oper} (h : (l.all fun o => frB P o.op || vcall o.op) = true) : ∀ (i : Nat) o, l.toArray[i]? = some o → FRop P o ∨ vcall o.op = true := fun i o ho => by
  have := List.all_eq_true.1 h o (List.mem_of_getElem? (by simpa using ho))
  rcases Bool.or_eq_true _ _ ▸ this with h | h
  · exact .inl (frop_of h)
  · exact .inr h
theorem fr_all {P : Program} {l : List Oper} (h : (l.all fun o => frB P o.op) = true) : ∀ (i : Nat) o, l.toArray[i]? = some o → FRop P o := fun i o ho => frop_of (List.all_eq_true.1 h o (List.mem_of_getElem? (by simpa using ho)))
theorem bodyPostQ_ret {P : Program} {fn : Func} {R : Ending → World → Prop} {a : Act} {w : World} {v : Value} (hr : ∀ w1, Ext w w1 → (results fn a.tmps).run P w1 = .ok v w1) (hd : a.defers = []) (h : R (.returned v) w) : bodyPostQ P fn R .ret a w := ⟨hd, fun w1 hx => ⟨v, hr w1 hx, h⟩⟩
variable [PhC]
section
variable {P : Program} {Q : Exit → Act → World → Prop} {ops : Array Oper} {b : Frame} {k : List Item} {cs : List Frame} {m : PhC.M} {S : Goroutine → World → Prop}
theorem go_list (hfr : ∀ (i : Nat) o, ops[i]? = some o → FRop P o ∨ vcall o.op = true) (hk : b.kind ≠ .early) (hc : ∀ e a' w', Q e a' w' → Aft P m S b k cs e a' w') : ∀ (rest : List Oper) (k0 : Nat) (a : Act) (w : World), (∀ j, j < rest.length → rest[j]? = ops[k0 + j]?) →
    wqList P ops Q rest a w → Go3 P m S (G (b.at a (.inRegion ops (List.range' k0 rest.length) :: k)) cs) w
  | [], k0, a, w, _, h => .ctl rfl (fun _ => stepG_region_end) (hc .normal a w h)
  | o :: rest, k0, a, w, hj, h => by
    have ho : ops[k0]? = some o := by
      have := hj 0 (by simp)
      simpa using this.symm
    rw [List.length_cons, List.range'_succ]
    refine go_op (Q := Q) ho ((hfr _ _ ho).elim (fun h => h a.eval fun _ => rfl) fun e => (h.1 e).fr) hk h.2 fun a' w' h' => go_list hfr hk hc rest (k0 + 1) a' w' (fun j hlt => ?_) h'
    have := hj (j + 1) (by simpa using hlt)
    rw [List.getElem?_cons_succ] at this
    rw [this]
    congr 1
    omega
end
section
variable {P : Program} {Q : Exit → Act → World → Prop} {a : Act} {w : World}
theorem wq_region_lit {id : Nat} {l : List Oper} (hfr : ∀ (i : Nat) o, l.toArray[i]? = some o → FRop P o ∨ vcall o.op = true) (h : wqList P l.toArray Q l a w) : Wq P (.region id l.toArray false) Q a w := by
  intro m b k cs S hk hc
  refine .ctl rfl (fun _ => stepG_region) ?_
  have := go_list (ops := l.toArray) hfr hk hc l 0 a w (fun j _ => by simp) h
  rw [List.size_toArray, List.range_eq_range']
  exact this
/-- Operation number i comes up. -/
def wqOp (P : Program) (ops : Array Oper) (Q : Exit → Act → World → Prop) (i : Nat) (K : Act → World → Prop) (a : Act) (w : World) : Prop :=
  match ops[i]? with
  | none => False
  | some o => if Region.wanted o (yielded ops a.tmps) then OperWq P o a w K Q ∨ False else K (a.put o.dst undef) w
/-- Whatever order is picked. -/
def wqAny (P : Program) (md : Region.Mode) (ops : Array Oper) (Q : Exit → Act → World → Prop) : Nat → Array Bool → Act → World → Prop
  | 0, listed, a, w => Region.ready md ops listed = [] ∧ Q .normal a w
  | fuel + 1, listed, a, w =>
    (Region.ready md ops listed = [] → Q .normal a w) ∧
    ∀ i ∈ Region.ready md ops listed, ∀ w1, Ext w w1 → wqOp P ops Q i (wqAny P md ops Q fuel (listed.setIfInBounds i true)) a w1
section
variable {ops : Array Oper} {b : Frame} {k : List Item} {cs : List Frame} {m : PhC.M} {S : Goroutine → World → Prop}
theorem go_any {md : Region.Mode} (hfr : ∀ (i : Nat) o, ops[i]? = some o → FRop P o) (hk : b.kind ≠ .early) (hc : ∀ e a' w', Q e a' w' → Aft P m S b k cs e a' w') : ∀ (fuel t : Nat) (listed : Array Bool) (a : Act) (w : World),
    wqAny P md ops Q fuel listed a w → Go3 P m S (G (b.at a (.inRegion ops (Region.linearise.go md ops fuel t listed []) :: k)) cs) w := by
  have hend : ∀ a w, Q .normal a w → Go3 P m S (G (b.at a (.inRegion ops [] :: k)) cs) w := fun a w h => .ctl rfl (fun _ => stepG_region_end) (hc .normal a w h)
  intro fuel
  induction fuel with
  | zero => intro t listed a w h; simpa [Region.linearise.go] using hend a w h.2
  | succ fuel ih =>
    intro t listed a w h
    obtain ⟨h₀, h₁⟩ := h
    simp only [Region.linearise.go]
    change Go3 P m S (G (b.at a (.inRegion ops (match (Region.ready md ops listed)[t % (Region.ready md ops listed).length]? with
      | some i => Region.linearise.go md ops fuel (t / (Region.ready md ops listed).length) (listed.setIfInBounds i true) [i]
      | none => [].reverse) :: k)) cs) w
    cases hi : (Region.ready md ops listed)[t % (Region.ready md ops listed).length]? with
    | none =>
      have hnil : Region.ready md ops listed = [] := by
        cases hr : Region.ready md ops listed with
        | nil => rfl
        | cons x xs =>
          rw [hr] at hi
          have hlt : t % (x :: xs).length < (x :: xs).length := Nat.mod_lt _ (by simp)
          simp at hi
          simp at hlt
          omega
      simpa using hend a w (h₀ hnil)
    | some i =>
      simp only []
      rw [linearise_go_acc, List.reverse_singleton, List.singleton_append]
      have hop := h₁ i (List.mem_of_getElem? hi)
      cases ho : ops[i]? with
      | none => have := hop w (Ext.refl w); unfold wqOp at this; rw [ho] at this; exact this.elim
      | some o =>
        refine go_op (Q := Q) (K := wqAny P md ops Q fuel (listed.setIfInBounds i true)) ho (hfr _ _ ho a.eval fun _ => rfl) hk (fun w1 hx => ?_) fun a' w' h' => ih _ _ a' w' h'
        have hd := hop w1 hx
        unfold wqOp at hd
        simp only [ho] at hd
        split
        · rename_i hw; rw [if_pos hw] at hd; exact hd.resolve_right id
        · rename_i hw; rw [if_neg hw] at hd; exact hd
end
theorem wq_region_any {id : Nat} {ops : Array Oper} (hfr : ∀ (i : Nat) o, ops[i]? = some o → FRop P o) (hm : P.follows .mixedOrders = true) (h : ∀ w1, Ext w w1 → wqAny P .any ops Q ops.size (Array.replicate ops.size false) a w1) : Wq P (.region id ops true) Q a w := by
  intro m b k cs S hk hc
  refine Go3.mk rfl fun w1 hx => ⟨G (b.at a (.inRegion ops (Region.schedule (P.follows .mixedOrders) ops (w1.tape w1.drawn (.order b.fn id))) :: k)) cs, w1.at (w1.drawn + 1), fun u hu => ?_, ?_⟩
  · refine ⟨u.at (u.drawn + 1), #[], ?_, ?_, by simp⟩
    · rw [stepG_region_draw, hu.rest]; rfl
    · have e : u.drawn = w1.drawn := by rw [hu.rest]
      rw [e]
      exact ⟨hu.at _, Nat.le_refl _, fun _ h => h, fun _ _ _ => ⟨rfl, rfl⟩, fun _ _ => Iff.rfl, rfl, rfl, rfl, fun _ c _ z h => ⟨c, z, h⟩, fun _ h => h⟩
  · simp only [Region.schedule, hm, Bool.true_or, if_true]
    exact go_any hfr hk hc ops.size _ _ a _ (h _ (hx.trans (Ext.drew _ _)))
end
theorem CallsQ.mono {P : Program} {f : FuncId} {args : Array Value} {w : World} {R R' : Ending → World → Prop} (h : CallsQ P f args w R) (hr : ∀ e w, R e w → R' e w) : CallsQ P f args w R' := by
  obtain ⟨fn, c, h1, h3, h4⟩ := h
  refine ⟨fn, c, h1, h3, wq_mono h4 fun e a w q => ?_⟩
  cases e <;> first | exact q | exact ⟨q.1, fun w1 hx => ⟨(q.2 w1 hx).choose, (q.2 w1 hx).choose_spec.1, hr _ _ (q.2 w1 hx).choose_spec.2⟩⟩
theorem callsQ_of_wq {P : Program} {f : FuncId} {fn : Func} {c : Code} {args : Array Value} {w : World} {R : Ending → World → Prop} (hf : P.funcs[f]? = some fn) (hb : fn.body = some c)
    (h : Wq P c (bodyPostQ P fn R) { tmps := args ++ Array.replicate (fn.ntmps - args.size) undef, defers := [] } w) : CallsQ P f args w R := ⟨fn, c, hf, hb, h⟩
end Go.Proofs.Ytgeflnjjppgooaa.Q

namespace Go.Proofs.Ytgeflnjjppgooaa.Q
open Go.RowKit
def ResOk [PhC] (P : Program) (R : Value → World → Prop) : Result Next → Prop
  | .ok (.value v) w' => R v w'
  | .ok .skip w' => R undef w'
  | .ok (.enter f args) w' => CallsQ P f args w' (fun e w'' => ∃ v, e = .returned v ∧ R v w'')
  | _ => False
theorem ResOk.mono [PhC] {P : Program} {R R' : Value → World → Prop} {r : Result Next} (h : ResOk P R r) (hr : ∀ v w, R v w → R' v w) : ResOk P R' r := by
  cases r with
  | ok x w =>
    cases x <;> simp only [ResOk] at h ⊢ <;> first | exact hr _ _ h | skip
    exact h.mono fun e w'' ⟨v, he, hv⟩ => ⟨v, he, hr _ _ hv⟩
  | halt x w => exact h.elim
theorem ResOk.upon [PhC] {P : Program} {R : Value → World → Prop} {r : Result Next} (h : ResOk P R r) {o : Oper} {a : Act} {next : Act → World → Prop}
    (hn : ∀ v w, R v w → next (a.put o.dst v) w) : uponQ P o a next r := by
  cases r with
  | ok x w =>
    cases x <;> simp only [ResOk] at h <;> simp only [uponQ] <;> first | exact hn _ _ h | skip
    exact h.mono fun e w'' ⟨v, he, hv⟩ => ⟨v, he, hn _ _ hv⟩
  | halt x w => exact h.elim
/-- The operation o, in whatever world of the class, yields a value that is canonically u, and stays in the class. -/
def Y [PhC] (P : Program) (w0 : World) (O : List Ent) (E : Env) (o : Oper) (u : Value) : Prop :=
  ∀ ρ w, Ev E o.op ρ → Hp w0 O w → ResOk P (fun v w' => cn v = u ∧ Hp w0 O w') ((execOp ρ o).run P w)
/-- .. leads to R. -/
def YG [PhC] (P : Program) (w0 : World) (O : List Ent) (E : Env) (o : Oper) (R : Value → World → Prop) : Prop :=
  ∀ ρ w, Ev E o.op ρ → Hp w0 O w → ResOk P (fun v w' => R (cn v) w') ((execOp ρ o).run P w)
section
variable {P : Program} {n : Nat} {w0 : World} {O : List Ent} {E : Env} {Q : Exit → Act → World → Prop} {ops : Array Oper}
def V [PhC] (P : Program) (n : Nat) (w0 : World) (O : List Ent) (E : Env) (c : Code) (Q : Exit → Act → World → Prop) : Prop := VX n w0 O E (Wq P c Q)
def VL [PhC] (P : Program) (n : Nat) (w0 : World) (O : List Ent) (E : Env) (ops : Array Oper) (Q : Exit → Act → World → Prop) (l : List Oper) : Prop := VX n w0 O E (wqList P ops Q l)
theorem VL.at [PhC] {o : Oper} {rest : List Oper} (hv : vcall o.op = false) (h : ∀ a w, Models n E a → Hp w0 O w → wqList1 P ops Q o rest a w) : VL P n w0 O E ops Q (o :: rest) :=
  fun a _ ha hw => ⟨fun e => absurd (hv.symm.trans e) Bool.false_ne_true, fun w1 hx => h a w1 ha (hw.ext hx)⟩
theorem VL.atv [PhC] {o : Oper} {rest : List Oper} (hv : ∀ a, Models n E a → VEv P o a) (h : ∀ a w, Models n E a → Hp w0 O w → wqList1 P ops Q o rest a w) : VL P n w0 O E ops Q (o :: rest) :=
  fun a _ ha hw => ⟨fun _ => hv a ha, fun w1 hx => h a w1 ha (hw.ext hx)⟩
theorem V.seq [PhC] {x y : Code} (h : V P n w0 O E x (Exit.then (Wq P y Q) Q)) : V P n w0 O E (.seq x y) Q := fun a w ha hw => wq_seq (h a w ha hw)
theorem V.skip [PhC] (h : VE n w0 O E Q .normal) : V P n w0 O E .skip Q := fun a w ha hw => wq_skip (h a w ha hw)
theorem V.ret [PhC] (h : VE n w0 O E Q .ret) : V P n w0 O E .ret Q := fun a w ha hw => wq_ret (h a w ha hw)
theorem V.exit [PhC] {id : Nat} (h : VE n w0 O E Q (.exit id)) : V P n w0 O E (.exit id) Q := fun a w ha hw => wq_exit (h a w ha hw)
theorem V.block [PhC] {id : Nat} {c : Code} (h : V P n w0 O E c (Exit.inBlock id Q)) : V P n w0 O E (.block id c) Q := fun a w ha hw => wq_block (h a w ha hw)
theorem V.cond [PhC] {c : Operand} {x y : Code} {b : Bool} (hc : E.opd c = some (.bool b)) (ht : b = true → V P n w0 O E x Q) (hf : b = false → V P n w0 O E y Q) : V P n w0 O E (.cond c x y) Q := by
  intro a w ha hw
  exact wq_cond_split (cn_bool (ha.opd hc)) (fun h => ht h a w ha hw) (fun h => hf h a w ha hw)
theorem V.region [PhC] {id : Nat} {l : List Oper} (h : VL P n w0 O E l.toArray Q l) (hnm : (l.all fun o => frB P o.op || vcall o.op) = true := by kernel_rfl) : V P n w0 O E (.region id l.toArray false) Q := fun a w ha hw => wq_region_lit (fr_allv hnm) (h a w ha hw)
theorem VL.nil [PhC] (h : VE n w0 O E Q .normal) : VL P n w0 O E ops Q [] := fun a w ha hw => wqList_nil (h a w ha hw)
theorem VL.op [PhC] {o : Oper} {rest : List Oper} {d : Nat} {u : Value} (hg : o.guard = none) (hd : o.dst = some d) (hdn : d < n) (hy : Y P w0 O E o u)
    (h : VL P n w0 O ((d, u) :: E) ops Q rest) (hv : vcall o.op = false := by rfl) : VL P n w0 O E ops Q (o :: rest) := by
  refine VL.at hv fun a w ha hw => ?_
  refine wqList_plain hg fun K hK => ?_
  unfold OperWq
  refine (hy a.eval w (ha.ev _) hw).upon fun v w' hv => hK _ _ ?_
  exact h _ _ (by rw [hd]; exact ha.put hdn hv.1) hv.2
theorem VL.no [PhC] {o : Oper} {rest : List Oper} {d j t : Nat} {b b' : Bool} (hg : o.guard = some (j, b)) (hj : (ops[j]?).bind (·.dst) = some t) (hb : E.get t = some (.bool b')) (hne : (b' == b) = false) (hd : o.dst = some d) (hdn : d < n)
    (h : VL P n w0 O ((d, undef) :: E) ops Q rest) (hv : vcall o.op = false := by rfl) : VL P n w0 O E ops Q (o :: rest) := by
  refine VL.at hv fun a w ha hw => ?_
  refine wqList_step fun K hK => ?_
  rw [if_neg (by simp [Region.wanted, hg, yielded_of ha hj hb]; intro e; subst e; simp at hne)]
  exact hK _ _ (h _ _ (by rw [hd]; exact ha.put hdn (by simp [undef, cn])) hw)
theorem VE.then_wp [PhC] {y : Code} (h : V P n w0 O E y Q) : VE n w0 O E (Exit.then (Wq P y Q) Q) .normal := h
theorem V.loop [PhC] {G : Type} {body : Code} (I : G → Prop) (Og : G → List Ent) (Ev' : G → Env) (Ec : Env) (μ : G → Nat) (g0 : G)
    (hE : ∀ t u, Env.get (Ev' g0 ++ Ec) t = some u → E.get t = some u) (hO : ∀ w, Hp w0 O w → Hp w0 (Og g0) w) (h0 : I g0)
    (round : ∀ g, I g → V P n w0 (Og g) (Ev' g ++ Ec) body (Exit.then (fun a w => ∃ g', I g' ∧ Models n (Ev' g' ++ Ec) a ∧ Hp w0 (Og g') w ∧ μ g' < μ g) Q)) :
    V P n w0 O E (.loop body) Q := by
  intro a w ha hw mm b k cs S hk hc
  have key : ∀ m (g : G), μ g = m → I g → ∀ a w, Models n (Ev' g ++ Ec) a → Hp w0 (Og g) w → Go3 P mm S (Conc.G (b.at a (.code body :: .inLoop body :: k)) cs) w := by
    intro m
    induction m using Nat.strongRecOn with
    | _ m ih =>
      intro g hm hg a w ha hw
      refine round g hg a w ha hw mm b (.inLoop body :: k) cs S hk fun e a' w' q => ?_
      cases e with
      | normal =>
        obtain ⟨g', hg', ha', hw', hlt⟩ := q
        exact .ctl rfl (fun _ => Conc.stepG_inLoop) (ih (μ g') (hm ▸ hlt) g' rfl hg' a' w' ha' hw')
      | exit id => exact (hc _ _ _ q).push rfl (by simp)
      | ret => exact (hc _ _ _ q).push (x := .inLoop body) rfl (by simp)
      | goto l => exact hc _ _ _ q
      | panic ch => exact hc _ _ _ q
      | outgrown => exact hc _ _ _ q
  exact .ctl rfl (fun _ => Conc.stepG_loop) (key _ g0 rfl h0 a w (ha.mono hE) (hO w hw))
end
end Go.Proofs.Ytgeflnjjppgooaa.Q

namespace Go.Proofs.Ytgeflnjjppgooaa.Q
open Go.RowKit
/-- quiet: one canonical value; nothing that was there turns -/
def YQ [PhC] (P : Program) (w0 : World) (O : List Ent) (E : Env) (o : Oper) (u : Value) : Prop :=
  ∀ ρ w, Ev E o.op ρ → Hp w0 O w → ResOk P (fun v w' => cn v = u ∧ Below w.heap.size w w') ((execOp ρ o).run P w)
/-- .. in every world whatever -/
def YR [PhC] (P : Program) (E : Env) (o : Oper) (u : Value) : Prop :=
  ∀ ρ w, Ev E o.op ρ → ResOk P (fun v w' => cn v = u ∧ Below w.heap.size w w') ((execOp ρ o).run P w)
/-- something new is made beside what is there -/
def YN [PhC] (P : Program) (w0 : World) (O : List Ent) (E : Env) (o : Oper) {X : Type} (u : X → Value) (N : X → List Ent) : Prop :=
  ∀ ρ w, Ev E o.op ρ → Hp w0 O w → ResOk P (fun v w' => ∃ x, cn v = u x ∧ Below w.heap.size w w' ∧ (∀ e ∈ N x, e.at w.heap.size w') ∧ (N x).Pairwise Ent.apart) ((execOp ρ o).run P w)
/-- what the call owns turns -/
def YC [PhC] (P : Program) (w0 : World) (O : List Ent) (E : Env) (o : Oper) {X : Type} (u : X → Value) (O' : X → List Ent) : Prop :=
  ∀ ρ w F, Ev E o.op ρ → Hp w0 (F ++ O) w → ResOk P (fun v w' => ∃ x, cn v = u x ∧ Hp w0 (F ++ O' x) w') ((execOp ρ o).run P w)
section
variable {P : Program} {n : Nat} {w0 : World} {O : List Ent} {E : Env} {Q : Exit → Act → World → Prop} {ops : Array Oper} {o : Oper} {rest : List Oper} {d : Nat}
theorem YR.q [PhC] {u : Value} (h : YR P E o u) : YQ P w0 O E o u := fun ρ w hE _ => h ρ w hE
theorem VL.stepG [PhC] {R : Value → World → Prop} (hg : Wants ops E o) (hy : YG P w0 O E o R)
    (h : ∀ a w v, Models n E a → R (cn v) w → wqList P ops Q rest (a.put o.dst v) w) (hv : vcall o.op = false := by rfl) : VL P n w0 O E ops Q (o :: rest) := by
  refine VL.at hv fun a w ha hw => ?_
  refine wqList_step fun K hK => ?_
  rw [if_pos (hg.wanted ha)]
  unfold OperWq
  exact (hy a.eval w (ha.ev _) hw).upon fun v w' hv => hK _ _ (h a w' v ha hv)
theorem VL.q [PhC] {u : Value} (hg : Wants ops E o) (hd : o.dst = some d) (hdn : d < n) (hy : YQ P w0 O E o u) (h : VL P n w0 O ((d, u) :: E) ops Q rest) (hv : vcall o.op = false := by rfl) : VL P n w0 O E ops Q (o :: rest) := by
  refine VL.at hv fun a w ha hw => ?_
  refine wqList_step fun K hK => ?_
  rw [if_pos (hg.wanted ha)]
  unfold OperWq
  refine (hy a.eval w (ha.ev _) hw).upon fun v w' hv => hK _ _ ?_
  exact h _ _ (by rw [hd]; exact ha.put hdn hv.1) (hw.ext hv.2)
theorem VL.qv [PhC] {u : Value} (hg : Wants ops E o) (hd : o.dst = some d) (hdn : d < n) (hv : ∀ a, Models n E a → VEv P o a) (hy : YQ P w0 O E o u) (h : VL P n w0 O ((d, u) :: E) ops Q rest) : VL P n w0 O E ops Q (o :: rest) := by
  refine VL.atv hv fun a w ha hw => ?_
  refine wqList_step fun K hK => ?_
  rw [if_pos (hg.wanted ha)]
  unfold OperWq
  refine (hy a.eval w (ha.ev _) hw).upon fun v w' hv => hK _ _ ?_
  exact h _ _ (by rw [hd]; exact ha.put hdn hv.1) (hw.ext hv.2)
theorem VEv.ofK [PhC] {o : Oper} {x : Operand} {args : Array Operand} {ts : Array TypeId} {g : FuncId} {cap : Array Value} (hk : ∃ fn, P.funcs[g]? = some fn ∧ fn.body.isSome = true ∧ (fn.name == "runtime.NumGoroutine") = false) (ho : o.op = .call ⟨.value x, args, ts⟩) (hx : E.opd x = some (.func (.func g) #[] cap)) : ∀ a, Models n E a → VEv P o a := fun a ha => by
  obtain ⟨fn, h1, h2, h3⟩ := hk
  exact ⟨x, args, ts, g, _, _, fn, ho, cn_func (ha.opd hx), h1, by simp [frF, h2]⟩
theorem VL.r [PhC] {u : Value} (hg : Wants ops E o) (hd : o.dst = some d) (hdn : d < n) (hy : YR P E o u) (h : VL P n w0 O ((d, u) :: E) ops Q rest) (hv : vcall o.op = false := by rfl) : VL P n w0 O E ops Q (o :: rest) := VL.q hg hd hdn hy.q h hv
theorem VL.new [PhC] {X : Type} {u : X → Value} {N : X → List Ent} (hg : Wants ops E o) (hd : o.dst = some d) (hdn : d < n) (hy : YN P w0 O E o u N) (h : ∀ x, VL P n w0 (N x ++ O) ((d, u x) :: E) ops Q rest) (hv : vcall o.op = false := by rfl) : VL P n w0 O E ops Q (o :: rest) := by
  refine VL.at hv fun a w ha hw => ?_
  refine wqList_step fun K hK => ?_
  rw [if_pos (hg.wanted ha)]
  unfold OperWq
  refine (hy a.eval w (ha.ev _) hw).upon fun v w' ⟨x, h1, h2, h3, h4⟩ => hK _ _ ?_
  exact h x _ _ (by rw [hd]; exact ha.put hdn h1) (hw.news h2 h3 h4)
theorem VL.new1 [PhC] {X : Type} {u : X → Value} {N : X → Ent} (hg : Wants ops E o) (hd : o.dst = some d) (hdn : d < n) (hy : YN P w0 O E o u (fun x => [N x])) (h : ∀ x, VL P n w0 (N x :: O) ((d, u x) :: E) ops Q rest) (hv : vcall o.op = false := by rfl) : VL P n w0 O E ops Q (o :: rest) := VL.new hg hd hdn hy h hv
theorem VL.c [PhC] {X : Type} {u : X → Value} {O' : X → List Ent} (hg : Wants ops E o) (hd : o.dst = some d) (hdn : d < n) (hy : YC P w0 O E o u O') (h : ∀ x, VL P n w0 (O' x) ((d, u x) :: E) ops Q rest) (hv : vcall o.op = false := by rfl) : VL P n w0 O E ops Q (o :: rest) := by
  refine VL.at hv fun a w ha hw => ?_
  refine wqList_step fun K hK => ?_
  rw [if_pos (hg.wanted ha)]
  unfold OperWq
  refine (hy a.eval w [] (ha.ev _) hw).upon fun v w' ⟨x, h1, h2⟩ => hK _ _ ?_
  exact h x _ _ (by rw [hd]; exact ha.put hdn h1) h2
/-- .. without a place for a value (a store) -/
theorem VL.s [PhC] {X : Type} {u : X → Value} {O' : X → List Ent} (hg : Wants ops E o) (hd : o.dst = none) (hy : YC P w0 O E o u O') (h : ∀ x, VL P n w0 (O' x) E ops Q rest) (hv : vcall o.op = false := by rfl) : VL P n w0 O E ops Q (o :: rest) := by
  refine VL.at hv fun a w ha hw => ?_
  refine wqList_step fun K hK => ?_
  rw [if_pos (hg.wanted ha)]
  unfold OperWq
  refine (hy a.eval w [] (ha.ev _) hw).upon fun v w' ⟨x, h1, h2⟩ => hK _ _ ?_
  exact h x _ _ (by rw [hd]; exact ha) h2
theorem yr_of [PhC] {u : Value} (h : ∀ ρ w, Ev E o.op ρ → ∃ v, (execOp ρ o).run P w = .ok (.value v) w ∧ cn v = u) : YR P E o u := fun ρ w hE => by
  obtain ⟨v, h1, h2⟩ := h ρ w hE
  rw [h1]; exact ⟨h2, Below.refl _ _⟩
theorem yr_move [PhC] {x : Operand} {u : Value} (ho : o.op = .move x) (hx : E.opd x = some u) : YR P E o u := yr_of fun ρ w hE =>
  ⟨ρ x, by simp [execOp, ho], hE.get (by simp [ho, Op.operands]) hx⟩
theorem yr_assign [PhC] {x : Operand} {u : Value} (ho : o.op = .assign x) (hx : E.opd x = some u) : YR P E o u := yr_of fun ρ w hE =>
  ⟨ρ x, by simp [execOp, ho], hE.get (by simp [ho, Op.operands]) hx⟩
theorem yr_pick_t [PhC] {c x y : Operand} {u : Value} (ho : o.op = .pick c x y) (hc : E.opd c = some (.bool true)) (hx : E.opd x = some u) : YR P E o u := yr_of fun ρ w hE =>
  ⟨ρ x, by simp [execOp, ho, cn_bool (hE.get (by simp [ho, Op.operands]) hc), asBool], hE.get (by simp [ho, Op.operands]) hx⟩
theorem yr_pick_f [PhC] {c x y : Operand} {u : Value} (ho : o.op = .pick c x y) (hc : E.opd c = some (.bool false)) (hx : E.opd y = some u) : YR P E o u := yr_of fun ρ w hE =>
  ⟨ρ y, by simp [execOp, ho, cn_bool (hE.get (by simp [ho, Op.operands]) hc), asBool], hE.get (by simp [ho, Op.operands]) hx⟩
theorem yr_extract [PhC] {t : Operand} {i : Nat} {us : Array Value} {u : Value} (ho : o.op = .extract t i) (ht : E.opd t = some (.tuple us)) (hu : us[i]? = some u) (hn : ∀ z, u ≠ .tuple z) : YR P E o u := yr_of fun ρ w hE => by
  obtain ⟨cs, h1, h2⟩ := cn_tuple (hE.get (x := t) (by simp [ho, Op.operands]) ht)
  subst h2
  simp only [Array.getElem?_map, Option.map_eq_some_iff] at hu
  obtain ⟨v, hv, hu⟩ := hu
  refine ⟨v, by simp [execOp, ho, h1, Instr.extract, hv], ?_⟩
  cases v <;> simp [cn, cn1, cn0] at hu ⊢ <;> try exact hu
  exact absurd hu.symm (hn _)
theorem yr_not [PhC] {t : TypeId} {x : Operand} {b : Bool} (ho : o.op = .unOp .not t x) (hx : E.opd x = some (.bool b)) : YR P E o (.bool !b) := yr_of fun ρ w hE =>
  ⟨.bool !b, by simp [execOp, ho, cn_bool (hE.get (x := x) (by simp [ho, Op.operands]) hx), Op.unary], rfl⟩
theorem yr_func [PhC] {f : Fn} {captured : Array Operand} {us : Array Value} (ho : o.op = .makeFunc f #[] captured) (hf : ∀ ρ, Ev E o.op ρ → captured.map ρ = us) (hrun : ∀ w, (Instr.makeFunc f #[] us).run P w = .ok (.func f #[] us) w) : YR P E o (.func f #[] us) := yr_of fun ρ w hE =>
  ⟨.func f #[] us, by simp [execOp, ho, hf ρ hE, hrun], rfl⟩
theorem yr_int [PhC] {op : BinOp} {t ty : TypeId} {x y : Operand} {k : IntKind} {a b r : Int} (ho : o.op = .binOp op t x y ty) (hx : E.opd x = some (.int k a)) (hy : E.opd y = some (.int k b))
    (hr : (op = .add ∧ k.wrap (a + b) = r) ∨ (op = .sub ∧ k.wrap (a - b) = r) ∨ (op = .mul ∧ k.wrap (a * b) = r)) : YR P E o (.int k r) := yr_of fun ρ w hE => by
  have h1 := cn_int (hE.get (x := x) (by simp [ho, Op.operands]) hx)
  have h2 := cn_int (hE.get (x := y) (by simp [ho, Op.operands]) hy)
  refine ⟨.int k r, ?_, rfl⟩
  rcases hr with ⟨rfl, hr⟩ | ⟨rfl, hr⟩ | ⟨rfl, hr⟩ <;> simp [execOp, ho, h1, h2, eqGuard, binOp, Op.intArith, hr]
theorem yr_quo [PhC] {t ty : TypeId} {x y : Operand} {k : IntKind} {a b r : Int} (ho : o.op = .binOp .quo t x y ty) (hx : E.opd x = some (.int k a)) (hy : E.opd y = some (.int k b))
    (hb : b ≠ 0) (hr : k.wrap (a.tdiv b) = r) : YR P E o (.int k r) := yr_of fun ρ w hE => by
  have h1 := cn_int (hE.get (x := x) (by simp [ho, Op.operands]) hx)
  have h2 := cn_int (hE.get (x := y) (by simp [ho, Op.operands]) hy)
  exact ⟨.int k r, by simp [execOp, ho, h1, h2, eqGuard, binOp, Op.intDiv, hb, hr], rfl⟩
theorem yr_rem [PhC] {t ty : TypeId} {x y : Operand} {k : IntKind} {a b : Int} (ho : o.op = .binOp .rem t x y ty) (hx : E.opd x = some (.int k a)) (hy : E.opd y = some (.int k b))
    (hb : b ≠ 0) : YR P E o (.int k (a.tmod b)) := yr_of fun ρ w hE => by
  have h1 := cn_int (hE.get (x := x) (by simp [ho, Op.operands]) hx)
  have h2 := cn_int (hE.get (x := y) (by simp [ho, Op.operands]) hy)
  exact ⟨.int k (a.tmod b), by simp [execOp, ho, h1, h2, eqGuard, binOp, Op.intDiv, hb], rfl⟩
theorem yr_icmp [PhC] {op : BinOp} {t ty : TypeId} {x y : Operand} {k : IntKind} {a b : Int} (ho : o.op = .binOp op t x y ty) (hop : op = .eql ∨ op = .neq ∨ op = .lss ∨ op = .leq ∨ op = .gtr ∨ op = .geq)
    (hx : E.opd x = some (.int k a)) (hy : E.opd y = some (.int k b)) : YR P E o (.bool (icmp op a b)) := yr_of fun ρ w hE => by
  have h1 := cn_int (hE.get (x := x) (by simp [ho, Op.operands]) hx)
  have h2 := cn_int (hE.get (x := y) (by simp [ho, Op.operands]) hy)
  refine ⟨.bool (icmp op a b), ?_, rfl⟩
  rcases hop with rfl | rfl | rfl | rfl | rfl | rfl <;> simp [execOp, ho, h1, h2, eqGuard, binOp, Op.intCmp, icmp]
theorem yr_float [PhC] {op : BinOp} {t ty : TypeId} {x y : Operand} {k : FloatKind} {a b : Nat} (ho : o.op = .binOp op t x y ty) (hop : op = .add ∨ op = .sub ∨ op = .mul ∨ op = .quo)
    (hx : E.opd x = some (.float k a)) (hy : E.opd y = some (.float k b)) : YR P E o (.float k (fop op k a b)) := fun ρ w hE => by
  obtain ⟨a', h1, rfl⟩ := cn_float (hE.get (x := x) (by simp [ho, Op.operands]) hx)
  obtain ⟨b', h2, rfl⟩ := cn_float (hE.get (x := y) (by simp [ho, Op.operands]) hy)
  obtain ⟨r, w', h3, h4, h5⟩ := run_farith (P := P) op t k a' b' hop w
  have hg : (eqGuard op t x y (ρ x) (ρ y)).run P w = .ok () w := by
    rcases hop with rfl | rfl | rfl | rfl <;> simp [eqGuard]
  simp only [execOp, ho, Sem.run_bind, hg, Result.andThen_ok]
  rw [h1, h2, h3]
  exact ⟨by simp [cn, cn1, cn0, h4, fop_cb], h5⟩
theorem yr_fcmp [PhC] {op : BinOp} {t ty : TypeId} {x y : Operand} {k : FloatKind} {a b : Nat} (ho : o.op = .binOp op t x y ty) (hop : op = .eql ∨ op = .neq ∨ op = .lss ∨ op = .leq ∨ op = .gtr ∨ op = .geq)
    (hx : E.opd x = some (.float k a)) (hy : E.opd y = some (.float k b)) : YR P E o (.bool (fcmp op k a b)) := yr_of fun ρ w hE => by
  obtain ⟨a', h1, rfl⟩ := cn_float (hE.get (x := x) (by simp [ho, Op.operands]) hx)
  obtain ⟨b', h2, rfl⟩ := cn_float (hE.get (x := y) (by simp [ho, Op.operands]) hy)
  refine ⟨.bool (fcmp op k a' b'), ?_, by rw [fcmp_cb]; rfl⟩
  rcases hop with rfl | rfl | rfl | rfl | rfl | rfl <;> simp [execOp, ho, h1, h2, eqGuard, binOp, Op.floatCmp, fcmp]
theorem yr_fconv [PhC] {src dst : TypeId} {x : Operand} {s k : FloatKind} {a : Nat} (ho : o.op = .convert src dst x) (hs : P.underlying src = some (.float s)) (hd : P.underlying dst = some (.float k))
    (hne : s ≠ k) (hx : E.opd x = some (.float s a)) (hv : fover s k a = false) : YR P E o (.float k (fconv s k a)) := fun ρ w hE => by
  obtain ⟨a', h1, rfl⟩ := cn_float (hE.get (x := x) (by simp [ho, Op.operands]) hx)
  rw [fover_cb] at hv
  rw [fconv_cb _ _ _ hne]
  simp only [execOp, ho, convert, Sem.run_bind, run_underlying hs, run_underlying hd, h1, Result.andThen_ok, Conv.floatToFloat, hne, if_false]
  unfold fover at hv
  unfold fconv
  rw [if_neg hne] at hv ⊢
  cases hr : s.decode a' with
  | nan sg f =>
    rw [hr] at hv
    simp [choose, Sem.run, Question.forced, ResOk, cn, cn1, cn0]
    exact ⟨cb_of_nan (cut_conv_nan _ _ _), below_drew _ _⟩
  | infinity sg => simp [ResOk, cn, cn1, cn0, Below.refl]; exact cb_of_num (write_num k.format (d := .infinity sg) rfl) (encode_lt _ _)
  | number sg m e =>
    rw [hr] at hv
    simp [hv, ResOk, cn, cn1, cn0, Below.refl]
    exact cb_of_num (write_num k.format (d := .number sg m e) rfl) (encode_lt _ _)
theorem yr_ofInt [PhC] {src dst : TypeId} {x : Operand} {q : IntKind} {k : FloatKind} {a : Int} (ho : o.op = .convert src dst x) (hs : P.underlying src = some (.int q)) (hd : P.underlying dst = some (.float k))
    (hx : E.opd x = some (.int q a)) : YR P E o (.float k (k.nearest a)) := yr_of fun ρ w hE => by
  have h1 := cn_int (hE.get (x := x) (by simp [ho, Op.operands]) hx)
  exact ⟨.float k (k.nearest a), by simp [execOp, ho, convert, run_underlying hs, run_underlying hd, h1, Conv.intToFloat], by simp [cn, cn1, cn0, cb_of_num (nearest_num k a) (encode_lt _ _)]⟩
theorem yr_intConv [PhC] {src dst : TypeId} {x : Operand} {q k : IntKind} {a r : Int} (ho : o.op = .convert src dst x) (hs : P.underlying src = some (.int q)) (hd : P.underlying dst = some (.int k))
    (hx : E.opd x = some (.int q a)) (hr : k.wrap a = r) : YR P E o (.int k r) := yr_of fun ρ w hE => by
  have h1 := cn_int (hE.get (x := x) (by simp [ho, Op.operands]) hx)
  exact ⟨.int k r, by simp [execOp, ho, convert, run_underlying hs, run_underlying hd, h1, Conv.intToInt, hr], rfl⟩
theorem yr_len [PhC] {x : Operand} {t e : TypeId} {a : Option Addr} {m c : Nat} (ho : o.op = .call ⟨.builtin .len, #[x], #[t]⟩) (ht : P.underlying t = some (.slice e)) (hx : E.opd x = some (.slice a m c)) : YR P E o (.int .i64 m) := yr_of fun ρ w hE => by
  have h1 := cn_slice (hE.get (x := x) (by simp [ho, Op.operands, Call.operands]) hx)
  exact ⟨.int .i64 m, by simp [execOp, ho, h1, resolve, invoke, builtin, Builtin.len_, run_underlying ht, goInt], rfl⟩
theorem yq_indexAddr [PhC] {t e : TypeId} {x y : Operand} {a : Option Addr} {m c z : Nat} {i : Int} {k : IntKind} {us : List Value} (ho : o.op = .indexAddr t x y) (ht : P.underlying t = some (.slice e)) (hz : (P.info? e).map (·.size) = some z)
    (hx : E.opd x = some (.slice a m c)) (hy : E.opd y = some (.int k i)) (hs : Sees w0 O a us) (hus : us ≠ []) (h0 : 0 ≤ i) (h1 : i < m) : YQ P w0 O E o (.pointer (some (adr a (i.toNat * z)))) := by
  intro ρ w hE hw
  have e1 := cn_slice (hE.get (x := x) (by simp [ho, Op.operands]) hx)
  have e2 := cn_int (hE.get (x := y) (by simp [ho, Op.operands]) hy)
  rcases hs w hw with h | ⟨p, rfl, hsp, _⟩
  · exact absurd h hus
  · have hr : (execOp ρ o).run P w = .ok (.value (.pointer (some (adr (some p) (i.toNat * z))))) w := by
      simp [execOp, ho, e1, e2, Instr.indexAt, asIntOf, run_underlying ht, h0, h1, info_size hz, adr_add hsp]
    rw [hr]
    exact ⟨rfl, Below.refl _ _⟩
theorem yr_fieldAddr [PhC] {t : TypeId} {x : Operand} {a : Option Addr} {k f off z : Nat} {fs : Array Field} {fd : Field} (ho : o.op = .fieldAddr t x f) (ht : P.underlying t = some (.struct fs)) (hf : fs[f]? = some fd) (hoff : fd.offset = off) (hz : (P.info? fd.type).map (·.size) = some z) (hz0 : z ≠ 0)
    (hx : E.opd x = some (.pointer (some (adr a k)))) : YR P E o (.pointer (some (adr a (k + off)))) := yr_of fun ρ w hE => by
  have e1 := cn_pointer (hE.get (x := x) (by simp [ho, Op.operands]) hx)
  refine ⟨.pointer (some (adr a (k + off))), by simp [execOp, ho, e1, Instr.fieldAt, run_underlying ht, hf, Instr.sureAddr, fieldPlace, info_size hz, hz0, adr_adr, hoff], rfl⟩
theorem yr_nilCheck [PhC] {x : Operand} {p : Addr} (ho : o.op = .nilCheck x) (hx : E.opd x = some (.pointer (some p))) : YR P E o (.pointer (some p)) := yr_of fun ρ w hE => by
  have e1 := cn_pointer (hE.get (x := x) (by simp [ho, Op.operands]) hx)
  exact ⟨.pointer (some p), by simp [execOp, ho, e1], rfl⟩
theorem yq_load [PhC] {t : TypeId} {x : Operand} {a : Option Addr} {k : Nat} {us : List Value} {u : Value} (ho : o.op = .load t x) (ht : flatB P t = true) (hx : E.opd x = some (.pointer (some (adr a k)))) (hs : Sees w0 O a us) (hk : us[k]? = some u) : YQ P w0 O E o u := by
  intro ρ w hE hw
  have e1 := cn_pointer (hE.get (x := x) (by simp [ho, Op.operands]) hx)
  obtain ⟨v, hv, hu⟩ := (hs w hw).cell hk
  have hr : (execOp ρ o).run P w = .ok (.value v) w := by
    simp [execOp, ho, e1, Instr.loadAt, Instr.sureAddr, loadVar, run_isAgg_flat ht, hv]
  rw [hr]
  exact ⟨hu, Below.refl _ _⟩
/-- A struct is read: its cells are those of us from the k-th on. -/
theorem yq_loadS [PhC] {t : TypeId} {x : Operand} {a : Option Addr} {k z : Nat} {us cs : List Value} {fs : Array Field} (ho : o.op = .load t x) (ht : P.underlying t = some (.struct fs)) (hz : (P.info? t).map (·.size) = some z) (hx : E.opd x = some (.pointer (some (adr a k)))) (hs : Sees w0 O a us)
    (hcs : (us.drop k).take z = cs) (hl : cs.length = z) (hsc : cs.all scal = true) : YQ P w0 O E o (.agg cs.toArray) := by
  intro ρ w hE hw
  have e1 := cn_pointer (hE.get (x := x) (by simp [ho, Op.operands]) hx)
  obtain ⟨vs, h1, h2, h3⟩ := (hs w hw).cellsN cs k (fun j u hj => by
    subst hcs
    have hj' : j < z := by
      have := (List.getElem?_eq_some_iff.1 hj).1
      simp at this; omega
    rw [List.getElem?_take, if_pos hj', List.getElem?_drop] at hj
    exact hj)
  obtain ⟨h4, h5⟩ := map_cn0_of h3 hsc
  have hr : (execOp ρ o).run P w = .ok (.value (.agg vs.toArray)) w := by
    have hload := run_loadCells_adr (P := P) (w := w) (a := a) (k := k) vs h2
    rw [h1, hl] at hload
    simp [execOp, ho, e1, Instr.loadAt, Instr.sureAddr, loadVar, aggB ht, info_size hz, hload]
  rw [hr]
  exact ⟨by simp [cn, cn1, h4], Below.refl _ _⟩
/-- A store into a block of the call's own: one cell, or a struct's. -/
theorem yc_store [PhC] {t : TypeId} {x y : Operand} {a : Option Addr} {k z cap : Nat} {ty : TypeId} {us us' cs : List Value} {u : Value} {O' : Unit → List Ent} (ho : o.op = .store t x y) (hz : (P.info? t).map (·.size) = some z)
    (hx : E.opd x = some (.pointer (some (adr a k)))) (hy : E.opd y = some u) (hO : UpdF O ⟨a, us, cap, ty⟩ (fun _ : Unit => ⟨a, us', cap, ty⟩) O') (hu : (scal u = true ∧ cs = [u]) ∨ (u = .agg cs.toArray ∧ cs.all scal = true)) (hl : cs.length = z) (hk : k + z ≤ us.length) (hz0 : 0 < z)
    (hus : setAt us k cs = us') : YC P w0 O E o (fun _ : Unit => undef) O' := by
  intro ρ w F hE hw
  have e1 := cn_pointer (hE.get (x := x) (by simp [ho, Op.operands]) hx)
  have e2 := hE.get (x := y) (by simp [ho, Op.operands]) hy
  obtain ⟨A, B, rfl, hO'⟩ := hO.parts
  simp only [hO']
  rw [← List.append_assoc] at hw ⊢
  -- the concrete cells
  obtain ⟨vs, g1, g2, g3⟩ : ∃ vs : List Value, (ρ y).cells = vs.toArray ∧ vs.map cn = cs ∧ vs.all scal = true := by
    rcases hu with ⟨hs, rfl⟩ | ⟨rfl, hs⟩
    · obtain ⟨h1, h2⟩ := scal_cn e2 hs
      refine ⟨[ρ y], ?_, by simp [e2], by simp [h2]⟩
      generalize ρ y = v at *
      cases v <;> simp [scal, Value.cells] at h2 ⊢
    · obtain ⟨ws, h1, h2⟩ := cn_agg e2
      refine ⟨ws.toList, by rw [h1]; simp [Value.cells], ?_, ?_⟩
      · have : ws.toList.map cn0 = cs := by have := congrArg Array.toList h2; simpa using this
        subst this
        apply List.map_congr_left
        intro v hv
        have hsv : scal (cn0 v) = true := List.all_eq_true.1 hs _ (List.mem_map_of_mem hv)
        cases v <;> simp [cn0, scal] at hsv <;> rfl
      · have : ws.toList.map cn0 = cs := by have := congrArg Array.toList h2; simpa using this
        subst this
        rw [List.all_eq_true] at hs ⊢
        intro v hv
        have hsv : scal (cn0 v) = true := hs _ (List.mem_map_of_mem hv)
        cases v <;> simp [cn0, scal] at hsv ⊢
  have hvl : vs.length = z := by rw [← hl, ← g2, List.length_map]
  have hent := (hw.ents ⟨a, us, cap, ty⟩ (by simp))
  have hcap : cap ≠ 0 := by
    rcases hent with h | ⟨_, _, _, _, _, _, h5, _⟩
    · have := h.1; simp only at this; subst this; simp at hk; omega
    · simp only at h5; omega
  obtain ⟨b0, hb0, hge⟩ := hent.addr hcap
  obtain ⟨b, w', r1, r2, r3, r4⟩ := run_storeCells_ent (P := P) vs us 0 k w a cap ty g3 (by omega) hent
  have hbb : b = b0 := by
    have := r2 (by intro h; subst h; simp at hvl; omega)
    simp only at hb0
    rw [this] at hb0
    simpa using hb0
  subst hbb
  have hr : (execOp ρ o).run P w = .ok .skip w' := by
    simp only [execOp, ho, Instr.storeAt, Instr.sureAddr, e1, storeVar, Sem.run_bind, Sem.run_pure, Result.andThen_ok, info_size hz, g1]
    simp [hvl, r1]
  rw [hr]
  refine ⟨(), by simp [undef, cn], ?_⟩
  simp only [Nat.add_zero, g2, hus] at r4
  exact Hp.turn hw (fun _ => ⟨_, hb0, rfl⟩) hge (fun h => absurd h hcap) r3 r4 (fun _ p hp => .inl (by simp only at hp hb0; rw [hb0] at hp; cases hp; rfl))
theorem yn_box [PhC] {e : TypeId} {x : Operand} {u : Value} {cs : List Value} (ho : o.op = .box e x) (hx : E.opd x = some u) (hu : (scal u = true ∧ cs = [u]) ∨ (u = .agg cs.toArray ∧ cs.all scal = true)) :
    YN P w0 O E o (fun b : Nat => .pointer (some (adr (some ⟨b, 0, none⟩) 0))) (fun b => [⟨some ⟨b, 0, none⟩, cs, cs.length, e⟩]) := by
  intro ρ w hE hw
  obtain ⟨vs, g1, g2, g3⟩ := cells_cn (hE.get (x := x) (by simp [ho, Op.operands]) hx) hu
  have hr : (execOp ρ o).run P w = .ok (.value (.pointer (some ⟨w.heap.size, 0, none⟩))) (w.alloc (.cells vs.toArray e)) := by
    simp [execOp, ho, Instr.box, newVar, run_newRow, g1]
  rw [hr]
  refine ⟨w.heap.size, by simp [cn, cn1, cn0, adr], below_alloc _ _ _, ?_, List.pairwise_singleton _ _⟩
  intro e' he'
  simp only [List.mem_singleton] at he'
  subst he'
  exact ent_new w vs cs e g2
theorem yn_alloc [PhC] {e : TypeId} {z : Value} {cs : List Value} (ho : o.op = .alloc e) (hz : (P.info? e).bind (·.zero) = some z) (hc : z.cells.toList.map cn = cs) :
    YN P w0 O E o (fun b : Nat => .pointer (some (adr (some ⟨b, 0, none⟩) 0))) (fun b => [⟨some ⟨b, 0, none⟩, cs, cs.length, e⟩]) := by
  intro ρ w hE hw
  have hr : (execOp ρ o).run P w = .ok (.value (.pointer (some ⟨w.heap.size, 0, none⟩))) (w.alloc (.cells z.cells.toList.toArray e)) := by
    simp [execOp, ho, Instr.alloc, newVar, run_newRow, info_zero hz]
  rw [hr]
  refine ⟨w.heap.size, by simp [cn, cn1, cn0, adr], below_alloc _ _ _, ?_, List.pairwise_singleton _ _⟩
  intro e' he'
  simp only [List.mem_singleton] at he'
  subst he'
  exact ent_new w _ cs e hc
end
end Go.Proofs.Ytgeflnjjppgooaa.Q

namespace Go.Proofs.Ytgeflnjjppgooaa.Q
open Go.RowKit
/-- The call yields u (canonically) and turns nothing that was there. -/
def Pure [PhC] (P : Program) (f : FuncId) (us : List Value) (w : World) (u : Value) : Prop :=
  ∀ vs : Array Value, vs.toList.map cn = us → CallsQ P f vs w (fun e w' => ∃ v, e = .returned v ∧ cn v = u ∧ Below w.heap.size w w')
/-- .. yields u x with the new blocks N x, for some x. -/
def New [PhC] (P : Program) (f : FuncId) (us : List Value) (w : World) {X : Type} (u : X → Value) (N : X → List Ent) : Prop :=
  ∀ vs : Array Value, vs.toList.map cn = us → CallsQ P f vs w (fun e w' => ∃ v, e = .returned v ∧ ∃ x, cn v = u x ∧ Below w.heap.size w w' ∧ (∀ e ∈ N x, e.at w.heap.size w') ∧ (N x).Pairwise Ent.apart)
/-- .. and may turn the call's own blocks: what is known of them behind it. -/
def Mut [PhC] (P : Program) (f : FuncId) (us : List Value) (w0 : World) (O : List Ent) {X : Type} (u : X → Value) (O' : X → List Ent) : Prop :=
  ∀ w F, Hp w0 (F ++ O) w → ∀ vs : Array Value, vs.toList.map cn = us → CallsQ P f vs w (fun e w' => ∃ v, e = .returned v ∧ ∃ x, cn v = u x ∧ Hp w0 (F ++ O' x) w')
section
variable {P : Program} {n : Nat} {w0 : World} {O : List Ent} {E : Env} {Q : Exit → Act → World → Prop} {ops : Array Oper} {o : Oper} {rest : List Oper} {d : Nat}
theorem yq_call [PhC] {callee : Operand} {args : Array Operand} {ts : Array TypeId} {f : FuncId} {us : List Value} {cs : Array Value} {u : Value} (ho : o.op = .call ⟨.value callee, args, ts⟩) (hk : Known P f) (hc : E.opd callee = some (.func (.func f) #[] cs)) (hx : Opds E args.toList us)
    (h : ∀ w, Hp w0 O w → Pure P f (us ++ cs.toList.map cn) w u) : YQ P w0 O E o u := by
  intro ρ w hE hw
  rw [run_call ho hk hc hE]
  exact (h w hw _ (args_map ho hx hE)).mono fun e w' ⟨v, h1, h2, h3⟩ => ⟨v, h1, h2, h3⟩
theorem yn_call [PhC] {callee : Operand} {args : Array Operand} {ts : Array TypeId} {f : FuncId} {us : List Value} {cs : Array Value} {X : Type} {u : X → Value} {N : X → List Ent} (ho : o.op = .call ⟨.value callee, args, ts⟩) (hk : Known P f) (hc : E.opd callee = some (.func (.func f) #[] cs)) (hx : Opds E args.toList us)
    (h : ∀ w, Hp w0 O w → New P f (us ++ cs.toList.map cn) w u N) : YN P w0 O E o u N := by
  intro ρ w hE hw
  rw [run_call ho hk hc hE]
  exact (h w hw _ (args_map ho hx hE)).mono fun e w' ⟨v, h1, h2⟩ => ⟨v, h1, h2⟩
theorem yq_callf [PhC] {args : Array Operand} {ts : Array TypeId} {f : FuncId} {us : List Value} {u : Value} (ho : o.op = .call ⟨.value (.func f), args, ts⟩) (hk : Known P f) (hx : Opds E args.toList us)
    (h : ∀ w, Hp w0 O w → Pure P f us w u) : YQ P w0 O E o u := by
  intro ρ w hE hw
  rw [run_call ho hk rfl hE]
  exact (h w hw _ (args_map' ho hx hE)).mono fun e w' ⟨v, h1, h2, h3⟩ => ⟨v, h1, h2, h3⟩
theorem yn_callf [PhC] {args : Array Operand} {ts : Array TypeId} {f : FuncId} {us : List Value} {X : Type} {u : X → Value} {N : X → List Ent} (ho : o.op = .call ⟨.value (.func f), args, ts⟩) (hk : Known P f) (hx : Opds E args.toList us)
    (h : ∀ w, Hp w0 O w → New P f us w u N) : YN P w0 O E o u N := by
  intro ρ w hE hw
  rw [run_call ho hk rfl hE]
  exact (h w hw _ (args_map' ho hx hE)).mono fun e w' ⟨v, h1, h2⟩ => ⟨v, h1, h2⟩
theorem yc_callf [PhC] {args : Array Operand} {ts : Array TypeId} {f : FuncId} {us : List Value} {X : Type} {u : X → Value} {M F0 : List Ent} {M' : X → List Ent} (ho : o.op = .call ⟨.value (.func f), args, ts⟩) (hk : Known P f) (hx : Opds E args.toList us) (hp : Pick O M F0)
    (h : Mut P f us w0 M u M') : YC P w0 O E o u (fun x => M' x ++ F0) := by
  intro ρ w F hE hw
  rw [run_call ho hk rfl hE]
  have hw' : Hp w0 ((F ++ F0) ++ M) w := by
    rw [List.append_assoc]
    exact hw.perm' (List.Perm.append_left F hp.perm)
  refine (h w (F ++ F0) hw' _ (args_map' ho hx hE)).mono fun e w' ⟨v, h1, x, h2, h3⟩ => ⟨v, h1, x, h2, ?_⟩
  rw [List.append_assoc] at h3
  exact h3.perm' (List.Perm.append_left F List.perm_append_comm)
/-- How a body ends. -/
abbrev Ends (P : Program) (fn : Func) (R : Value → World → Prop) : Exit → Act → World → Prop := bodyPostQ P fn (fun e w' => ∃ v, e = .returned v ∧ R (cn v) w')
theorem calls_enter [PhC] {f : FuncId} {fn : Func} {c : Code} {us : List Value} {w : World} {R : Value → World → Prop} (hf : P.funcs[f]? = some fn) (hb : fn.body = some c) (hn : fn.ntmps = n) (hl : us.length ≤ n)
    (h : V P n w [] (argsFrom 0 us) c (Ends P fn R)) (vs : Array Value) (hv : vs.toList.map cn = us) : CallsQ P f vs w (fun e w' => ∃ v, e = .returned v ∧ R (cn v) w') := by
  refine callsQ_of_wq hf hb ?_
  rw [hn]
  exact h _ _ (models_args hv hl) (Hp.refl w)
theorem Pure.enter [PhC] {f : FuncId} {fn : Func} {c : Code} {us : List Value} {w : World} {u : Value} (hf : P.funcs[f]? = some fn) (hb : fn.body = some c) (hn : fn.ntmps = n) (hl : us.length ≤ n)
    (h : V P n w [] (argsFrom 0 us) c (Ends P fn (fun u' w' => u' = u ∧ Below w.heap.size w w'))) : Pure P f us w u := calls_enter hf hb hn hl h
theorem New.enter [PhC] {f : FuncId} {fn : Func} {c : Code} {us : List Value} {w : World} {X : Type} {u : X → Value} {N : X → List Ent} (hf : P.funcs[f]? = some fn) (hb : fn.body = some c) (hn : fn.ntmps = n) (hl : us.length ≤ n)
    (h : V P n w [] (argsFrom 0 us) c (Ends P fn (fun u' w' => ∃ x, u' = u x ∧ Below w.heap.size w w' ∧ (∀ e ∈ N x, e.at w.heap.size w') ∧ (N x).Pairwise Ent.apart))) : New P f us w u N := calls_enter hf hb hn hl h
/-- A function that turns its caller's blocks is walked from the caller's world on. -/
theorem Mut.enter [PhC] {f : FuncId} {fn : Func} {c : Code} {us : List Value} {X : Type} {u : X → Value} {O' : X → List Ent} (hf : P.funcs[f]? = some fn) (hb : fn.body = some c) (hn : fn.ntmps = n) (hl : us.length ≤ n)
    (h : ∀ F, V P n w0 (F ++ O) (argsFrom 0 us) c (Ends P fn (fun u' w' => ∃ x, u' = u x ∧ Hp w0 (F ++ O' x) w'))) : Mut P f us w0 O u O' := by
  intro w F hw vs hv
  refine callsQ_of_wq hf hb ?_
  rw [hn]
  exact h F _ _ (models_args hv hl) hw
theorem ret1 [PhC] {fn : Func} {R : Value → World → Prop} {t : Tmp} {u : Value} (hr : fn.results = #[.tmp t]) (hu : E.get t = some u) (h : ∀ w, Hp w0 O w → R u w) : VE n w0 O E (Ends P fn R) .ret := by
  intro a w ha hw
  obtain ⟨v, h1, h2⟩ := ha.get t u hu
  exact bodyPostQ_ret (fun _ _ => results_tmp hr _ _ _) ha.defers ⟨v, by simp [h1], by rw [h2]; exact h w hw⟩
theorem ret0 [PhC] {fn : Func} {R : Value → World → Prop} (hr : fn.results = #[]) (h : ∀ w, Hp w0 O w → R (.tuple #[]) w) : VE n w0 O E (Ends P fn R) .ret := by
  intro a w ha hw
  exact bodyPostQ_ret (fun _ _ => results_none hr _ _ _) ha.defers ⟨_, rfl, by simpa [cn] using h w hw⟩
theorem ret2 [PhC] {fn : Func} {R : Value → World → Prop} {t s : Tmp} {u x : Value} (hr : fn.results = #[.tmp t, .tmp s]) (hu : E.get t = some u) (hx : E.get s = some x) (hun : ∀ z, u ≠ .tuple z) (hxn : ∀ z, x ≠ .tuple z) (h : ∀ w, Hp w0 O w → R (.tuple #[u, x]) w) : VE n w0 O E (Ends P fn R) .ret := by
  intro a w ha hw
  obtain ⟨v, h1, h2⟩ := ha.get t u hu
  obtain ⟨y, h3, h4⟩ := ha.get s x hx
  refine bodyPostQ_ret (fun _ _ => results_tmp2 hr _ _ _) ha.defers ⟨_, rfl, ?_⟩
  simp [h1, h3, cn, cn_of_ne h2 hun, cn_of_ne h4 hxn, h w hw]
theorem ret3 [PhC] {fn : Func} {R : Value → World → Prop} {t s r : Tmp} {u x y : Value} (hr : fn.results = #[.tmp t, .tmp s, .tmp r]) (hu : E.get t = some u) (hx : E.get s = some x) (hy : E.get r = some y) (hun : ∀ z, u ≠ .tuple z) (hxn : ∀ z, x ≠ .tuple z) (hyn : ∀ z, y ≠ .tuple z) (h : ∀ w, Hp w0 O w → R (.tuple #[u, x, y]) w) : VE n w0 O E (Ends P fn R) .ret := by
  intro a w ha hw
  obtain ⟨v1, h1, h2⟩ := ha.get t u hu
  obtain ⟨v2, h3, h4⟩ := ha.get s x hx
  obtain ⟨v3, h5, h6⟩ := ha.get r y hy
  refine bodyPostQ_ret (fun _ _ => results_tmp3 hr _ _ _) ha.defers ⟨_, rfl, ?_⟩
  simp [h1, h3, h5, cn, cn_of_ne h2 hun, cn_of_ne h4 hxn, cn_of_ne h6 hyn, h w hw]
theorem yr_build [PhC] {t : TypeId} {parts : Array (Nat × Operand)} {zero cells : List Value} {places : List (Nat × Nat)} {us : List Value} (ho : o.op = .build t parts) (hL : Lay P t zero places) (hz : zero.map cn0 = zero) (hx : Opds E (parts.toList.map (·.2)) us) (hn : ∀ u ∈ us, ∀ z, u ≠ .tuple z)
    (hc : fillC places ((parts.toList.map (·.1)).zip us) zero = some cells) : YR P E o (.agg cells.toArray) := yr_of fun ρ w hE => by
  have hm := hx.map hE (fun x hx => by simp [ho, Op.operands] at hx ⊢; exact hx)
  have hparts : ((parts.map fun (i, x) => (i, ρ x)).toList.map fun p => (p.1, cn p.2)) = (parts.toList.map (·.1)).zip us := by
    rw [← hm]
    simp only [Array.toList_map, List.map_map, List.zip_map']
    rfl
  have hnt : ∀ p ∈ (parts.map fun (i, x) => (i, ρ x)).toList, ∀ z, p.2 ≠ .tuple z := by
    intro p hp z he
    simp only [Array.toList_map, List.mem_map] at hp
    obtain ⟨⟨i, x⟩, hix, rfl⟩ := hp
    simp only at he
    have hu : cn (ρ x) ∈ us := by
      rw [← hm]
      simp only [List.map_map, List.mem_map]
      exact ⟨(i, x), hix, rfl⟩
    have := hn _ hu (z.map cn1)
    rw [he] at this
    exact this rfl
  have hcn := fillC_cn places (parts.map fun (i, x) => (i, ρ x)).toList zero hnt
  rw [hparts, hz, hc] at hcn
  obtain ⟨cs, hcs, hcs'⟩ := Option.map_eq_some_iff.1 hcn.symm
  refine ⟨.agg cs.toArray, ?_, by simp [cn, cn1, ← hcs']⟩
  have := run_build hL (parts.map fun (i, x) => (i, ρ x)) hcs w
  simp only [execOp, ho, Sem.run_bind, this, Result.andThen_ok, Sem.run_pure]
end
end Go.Proofs.Ytgeflnjjppgooaa.Q

namespace Go.Proofs.Ytgeflnjjppgooaa.Q
open Go.RowKit
set_option linter.unusedSimpArgs false
section
variable {P : Program} {n : Nat} {w0 : World} {O : List Ent} {E : Env} {o : Oper}
/-- make([]T, n) -/
theorem yn_makeSlice [PhC] {t e : TypeId} {x y : Operand} {m bytes : Nat} {zero : List Value} (ho : o.op = .makeSlice t x y) (ht : P.underlying t = some (.slice e)) (hE' : Elt P e zero bytes) (hzc : zero.map cn = zero)
    (hx : E.opd x = some (.int .i64 m)) (hy : E.opd y = some (.int .i64 m)) (hm : m * bytes ≤ 140737488355328) (hm' : m ≤ 140737488355328) :
    YN P w0 O E o (fun b : Nat => .slice (some ⟨b, 0, none⟩) m m) (fun b => [⟨some ⟨b, 0, none⟩, cycle zero m, m * zero.length, e⟩]) := by
  intro ρ w hE hw
  obtain ⟨i, z, h1, h2, h3, h4, h5, h6⟩ := hE'
  have e1 := cn_int (hE.get (x := x) (by simp [ho, Op.operands]) hx)
  have e2 := cn_int (hE.get (x := y) (by simp [ho, Op.operands]) hy)
  have hw1 : IntKind.i64.wrap (m : Int) = m := IntWalk.i64_in _ (by omega)
  have hsz : z.cells.size = zero.length := by rw [← h3]; simp
  have hbm : (bytes : Int) * m ≤ 281474976710656 := by
    have h8 : ((m * bytes : Nat) : Int) ≤ ((140737488355328 : Nat) : Int) := Int.ofNat_le.2 hm
    rw [Int.natCast_mul] at h8
    rw [Int.mul_comm]; omega
  have hr : (execOp ρ o).run P w = .ok (.value (.slice (some ⟨w.heap.size, 0, none⟩) m m)) (w.alloc (.cells (cycle zero m).toArray e)) := by
    have hnr : (newRow e ((Array.range (m * zero.length)).map (z.cells[· % z.cells.size]!))).run P w = .ok ⟨w.heap.size, 0, none⟩ (w.alloc (.cells (cycle zero m).toArray e)) := by
      rw [run_newRow, ← hsz, ← h3, ← range_cycle z.cells m (by omega)]
    have hask : (askRoom (m * bytes)).run P w = .ok () w := by
      unfold askRoom roomBytes
      rw [if_neg (by omega)]; rfl
    by_cases hm0 : m * zero.length = 0
    · have hm00 : m = 0 := by
        rcases mul_zero_cases hm0 with h | h
        · exact h
        · exact absurd h h6
      subst hm00
      have hw0 : IntKind.i64.wrap 0 = 0 := by decide
      simp only [Nat.zero_mul] at hask
      simp [execOp, ho, e1, e2, Instr.makeSlice, run_underlying ht, asInt, asIntOf, typeInfo, h1, program, Sem.run, sizeOf, h4, hw0, hask, run_newRow, cycle]
      congr 2
      apply Array.ext'
      simp
    · have hm1 : m ≠ 0 := fun h => hm0 (by rw [h, Nat.zero_mul])
      have hnotneg : ¬ ((m : Int) < 0) := by omega
      have hng : ¬ (281474976710656 < (bytes : Int) * m) := by omega
      simp [execOp, ho, e1, e2, Instr.makeSlice, run_underlying ht, asInt, asIntOf, typeInfo, h1, program, Sem.run, sizeOf, h4, h5, hw1, hnotneg, hng, hask, hm1, h6, zeroValue, h2]
      rw [if_neg hm0, hnr]; rfl
  rw [hr]
  refine ⟨w.heap.size, rfl, below_alloc _ _ _, ?_, List.pairwise_singleton _ _⟩
  intro e' he'
  simp only [List.mem_singleton] at he'
  subst he'
  have := ent_new w (cycle zero m) (cycle zero m) e (by rw [cycle_map, hzc])
  rwa [cycle_length] at this
/-- []T{..} whose parts fill it -/
theorem yn_buildSlice [PhC] {t e : TypeId} {m bytes : Nat} {parts : Array (Nat × Operand)} {zero : List Value} {us cells : List Value} (ho : o.op = .buildSlice t m parts) (ht : P.underlying t = some (.slice e)) (hE' : Elt P e zero bytes) (hzc : zero.map cn0 = zero) (hm : m * zero.length ≤ 16777216)
    (hx : Opds E (parts.toList.map (·.2)) us) (hn : ∀ u ∈ us, ∀ z, u ≠ .tuple z)
    (hc : fillC ((List.range m).map fun i => (i * zero.length, zero.length)) ((parts.toList.map (·.1)).zip us) (cycle zero m) = some cells) (hs : cells.all scal = true) :
    YN P w0 O E o (fun b : Nat => .slice (some ⟨b, 0, none⟩) m m) (fun b => [⟨some ⟨b, 0, none⟩, cells, m * zero.length, e⟩]) := by
  intro ρ w hE hw
  obtain ⟨i, z, h1, h2, h3, h4, h5, h6⟩ := hE'
  have hsz : z.cells.size = zero.length := by rw [← h3]; simp
  have hm' := hx.map hE (fun x hx => by simp [ho, Op.operands] at hx ⊢; exact hx)
  have hparts : ((parts.map fun (i, x) => (i, ρ x)).toList.map fun p => (p.1, cn p.2)) = (parts.toList.map (·.1)).zip us := by
    rw [← hm']
    simp only [Array.toList_map, List.map_map, List.zip_map']
    rfl
  have hnt : ∀ p ∈ (parts.map fun (i, x) => (i, ρ x)).toList, ∀ z, p.2 ≠ .tuple z := by
    intro p hp z he
    simp only [Array.toList_map, List.mem_map] at hp
    obtain ⟨⟨i, x⟩, hix, rfl⟩ := hp
    simp only at he
    have hu : cn (ρ x) ∈ us := by
      rw [← hm']
      simp only [List.map_map, List.mem_map]
      exact ⟨(i, x), hix, rfl⟩
    have := hn _ hu (z.map cn1)
    rw [he] at this
    exact this rfl
  have hcn := fillC_cn ((List.range m).map fun i => (i * zero.length, zero.length)) (parts.map fun (i, x) => (i, ρ x)).toList (cycle zero m) hnt
  rw [hparts, cycle_map, hzc, hc] at hcn
  obtain ⟨cs, hcs, hcs'⟩ := Option.map_eq_some_iff.1 hcn.symm
  -- the model's own filling: every index has a place there; here only those below m
  have hfill : ∀ (ps : List (Nat × Value)) (cells : Array Value) (out : List Value), fillC ((List.range m).map fun i => (i * zero.length, zero.length)) ps cells.toList = some out →
      Instr.fill (fun i => some (i * zero.length, zero.length)) cells ps = some out.toArray := by
    intro ps
    induction ps with
    | nil => intro cells out h; simp only [fillC, Option.some.injEq] at h; subst h; simp [Instr.fill]
    | cons p ps ih =>
      obtain ⟨i, v⟩ := p
      intro cells out h
      simp only [fillC] at h
      by_cases him : i < m
      · simp only [List.getElem?_map, List.getElem?_range him, Option.map_some] at h
        split at h
        · cases h
        · rename_i hne
          simp only [Instr.fill]
          rw [if_neg (by simpa using hne)]
          refine ih _ _ ?_
          rw [← h]
          congr 1
          have := foldl_setAt v.cells.toList (i * zero.length) 0 cells
          simp only [Nat.add_zero] at this
          rw [← this]
          rw [← Array.foldl_toList, Array.toList_zipIdx]
      · rw [List.getElem?_eq_none (by simp; omega)] at h
        cases h
  have hr : (execOp ρ o).run P w = .ok (.value (.slice (some ⟨w.heap.size, 0, none⟩) m m)) (w.alloc (.cells cs.toArray e)) := by
    by_cases hm0 : m * zero.length = 0
    · have hm00 : m = 0 := by
        rcases mul_zero_cases hm0 with h | h
        · exact h
        · exact absurd h h6
      subst hm00
      have hf := hfill _ #[] cs (by simpa [cycle] using hcs)
      simp [execOp, ho, Instr.buildSlice, run_underlying ht, info_size (show (P.info? e).map (·.size) = some zero.length by simp [h1, h4])]
      have hf' : Instr.fill (fun i => some (i * zero.length, zero.length)) #[] (parts.toList.map fun x => (x.1, ρ x.2)) = some cs.toArray := by simpa using hf
      rw [show Array.map (fun x => (default : Value)) (Array.range 0) = #[] from by apply Array.ext'; simp, hf']
      simp [run_newRow]
    · have hm1 : m ≠ 0 := fun h => hm0 (by rw [h, Nat.zero_mul])
      have hbig : ¬ (16777216 < m * zero.length) := by omega
      have hf := hfill _ ((Array.range (m * zero.length)).map (z.cells[· % z.cells.size]!)) cs (by rw [← hsz, range_cycle z.cells m (by omega), h3]; simpa [hsz] using hcs)
      simp [execOp, ho, Instr.buildSlice, run_underlying ht, info_size (show (P.info? e).map (·.size) = some zero.length by simp [h1, h4]), hbig, hm1, h6, info_zero (show (P.info? e).bind (·.zero) = some z by simp [h1, h2])]
      have hf' : Instr.fill (fun i => some (i * zero.length, zero.length)) ((Array.range (m * zero.length)).map (z.cells[· % z.cells.size]!)) (parts.toList.map fun x => (x.1, ρ x.2)) = some cs.toArray := by simpa using hf
      rw [if_neg hm0, hf']
      simp [run_newRow]
  rw [hr]
  refine ⟨w.heap.size, rfl, below_alloc _ _ _, ?_, List.pairwise_singleton _ _⟩
  intro e' he'
  simp only [List.mem_singleton] at he'
  subst he'
  have hcn1 : cs.map cn = cells := by
    rw [← hcs']
    apply List.map_congr_left
    intro v hv
    have : scal (cn0 v) = true := List.all_eq_true.1 hs _ (by rw [← hcs']; exact List.mem_map_of_mem hv)
    cases v <;> simp [cn0, scal] at this <;> rfl
  have hlen : cells.length = m * zero.length := by
    have key : ∀ (ps : List (Nat × Value)) (c out : List Value), fillC ((List.range m).map fun i => (i * zero.length, zero.length)) ps c = some out → out.length = c.length := by
      intro ps
      induction ps with
      | nil => intro c out h; simp only [fillC, Option.some.injEq] at h; rw [h]
      | cons p ps ih =>
        intro c out h
        simp only [fillC] at h
        split at h
        · cases h
        · split at h
          · cases h
          · rw [ih _ _ h, setAt_length]
    rw [key _ _ _ hc, cycle_length]
  have := ent_new w cs cells e hcn1
  rwa [hlen] at this
/-- []T{x, y, ..}, elements of one cell -/
theorem yn_lit [PhC] {t e : TypeId} {m bytes : Nat} {parts : Array (Nat × Operand)} {z : Value} {us : List Value} (ho : o.op = .buildSlice t m parts) (ht : P.underlying t = some (.slice e)) (hE' : Elt P e [z] bytes) (hzc : cn0 z = z) (hm : m ≤ 16777216)
    (hx : Opds E (parts.toList.map (·.2)) us) (hn : ∀ u ∈ us, ∀ z, u ≠ .tuple z) (hi : parts.toList.map (·.1) = List.range m) (hl : us.length = m) (hs : us.all scal = true) :
    YN P w0 O E o (fun b : Nat => .slice (some ⟨b, 0, none⟩) m m) (fun b => [⟨some ⟨b, 0, none⟩, us, m * 1, e⟩]) := by
  refine yn_buildSlice ho ht hE' (by simp [hzc]) (by simpa using hm) hx hn ?_ hs
  rw [hi]
  have := fillC_row ((List.range m).map fun i => (i * [z].length, [z].length)) us [] (cycle [z] m) (by rw [cycle_length, hl]; simp) hs (fun i hi => by
    have him : i < m := by simpa [hl] using hi
    simp [him])
  simpa [List.range_eq_range', hl] using this
/-- append(s, x...) -/
theorem yc_append [PhC] {s x : Operand} {t e : TypeId} {zero : List Value} {bytes : Nat} {a b : Option Addr} {m c m2 c2 cap : Nat} {us news : List Value} {O' : Option Addr × Nat → List Ent} (ho : o.op = .call ⟨.builtin .append, #[s, x], #[t, t]⟩) (ht : P.underlying t = some (.slice e)) (hE' : Elt P e zero bytes)
    (hs : E.opd s = some (.slice a m c)) (hx : E.opd x = some (.slice b m2 c2)) (hO : UpdF O ⟨a, us, cap, e⟩ (fun p : Option Addr × Nat => ⟨p.1, us ++ news, p.2 * zero.length, e⟩) O') (hsee : Sees w0 O b news) (hcap : cap = c * zero.length) (hus : us.length = m * zero.length) (hnews : news.length = m2 * zero.length) (hsu : us.all scal = true) (hsn : news.all scal = true)
    (hbd : (m + m2) * bytes ≤ 140737488355328) (hbd' : m + m2 ≤ 140737488355328) :
    YC P w0 O E o (fun p : Option Addr × Nat => .slice p.1 (m + m2) p.2) O' := by
  intro ρ w F hE hw
  have e1 := cn_slice (hE.get (x := s) (by simp [ho, Op.operands, Call.operands]) hs)
  have e2 := cn_slice (hE.get (x := x) (by simp [ho, Op.operands, Call.operands]) hx)
  have hcl := hsee w (hw.sub (List.sublist_append_right F O))
  obtain ⟨A, B, rfl, hO'⟩ := hO.parts
  simp only [hO']
  rw [← List.append_assoc] at hw
  simp only [← List.append_assoc]
  have hent := (hw.ents ⟨a, us, cap, e⟩ (by simp))
  have hlt0 : w0.heap.size ≤ w.heap.size := hw.below.size
  obtain ⟨i, z, h1, h2, h3, h4, h5, h6⟩ := hE'
  have hsz : z.cells.size = zero.length := by rw [← h3]; simp
  have hex : ∀ r, (Builtin.append_ #[t, t] o.type #[.slice a m c, .slice b m2 c2]).run P w = r → (execOp ρ o).run P w = r.andThen fun v w' => .ok (.value v) w' := by
    intro r hr
    simp [execOp, ho, e1, e2, resolve, invoke, builtin, hr]
  by_cases hm2 : m2 = 0
  · -- nothing is appended
    subst hm2
    have hn0 : news = [] := List.eq_nil_of_length_eq_zero (by simpa using hnews)
    subst hn0
    have hmc : m ≤ c := by
      rcases hent with h | ⟨_, _, _, _, _, _, h', _⟩
      · have := h.1; simp only at this; subst this
        have : m * zero.length = 0 := by simpa using hus.symm
        rcases mul_zero_cases this with h | h
        · omega
        · exact absurd h h6
      · simp only at h'
        rw [hus, hcap] at h'
        exact Nat.le_of_mul_le_mul_right h' (by omega)
    have hr : (Builtin.append_ #[t, t] o.type #[.slice a m c, .slice b 0 c2]).run P w = .ok (.slice a m c) w := by
      have hfc : (Builtin.firstCells zero.length 0 (.slice b 0 c2)).run P w = .ok #[] w := by
        cases b <;> simp [Builtin.firstCells, loadCells, loadCellsFrom]
      cases a with
      | none => simp [Builtin.append_, run_underlying ht, sizeOf, typeInfo, program, Sem.run, h1, h4, Builtin.lenOf, hmc, hfc]
      | some p => simp [Builtin.append_, run_underlying ht, sizeOf, typeInfo, program, Sem.run, h1, h4, Builtin.lenOf, hmc, hfc, storeCells]
    rw [hex _ hr]
    refine ⟨(a, c), rfl, ?_⟩
    simp only [List.append_nil, ← hcap]
    exact hw
  · have hb : ∃ q, b = some q ∧ q.spot = none := by
      rcases hcl with h | ⟨q, hq, hsp, _⟩
      · subst h
        have : m2 * zero.length = 0 := by simpa using hnews.symm
        rcases mul_zero_cases this with h | h
        · exact absurd h hm2
        · exact absurd h h6
      · exact ⟨q, hq, hsp⟩
    obtain ⟨q, rfl, hsp⟩ := hb
    obtain ⟨nv, n1, n2, n3⟩ := hcl.cellsN news 0 (fun j u hj => by simpa using hj)
    obtain ⟨_, n4⟩ := map_cn0_of n3 hsn
    have n2' : ∀ j u, nv[j]? = some u → w.cell? (q.add j) = some u := fun j u hj => by
      have := n2 j u hj
      rw [Nat.zero_add] at this
      rwa [adr_add hsp]
    have hnl : nv.length = m2 * i.size := by rw [n1, hnews, h4]
    rcases ent_cells hent hsu with h | ⟨g, cc, vs, g1, g2, g3, g4, g5, g6, g7, g8⟩
    · -- nothing is there yet
      obtain ⟨hus0, hcap0⟩ := h
      subst hus0
      have hm0 : m = 0 := by
        have : m * zero.length = 0 := by simpa using hus.symm
        rcases mul_zero_cases this with h | h
        · exact h
        · exact absurd h h6
      subst hm0
      have hc0 : c = 0 := by
        rw [hcap] at hcap0
        rcases mul_zero_cases hcap0 with h | h
        · exact h
        · exact absurd h h6
      subst hc0
      have hr : (Builtin.append_ #[t, t] o.type #[.slice a 0 0, .slice (some q) m2 c2]).run P w =
          .ok (.slice (some ⟨w.heap.size, 0, none⟩) m2 (grownCap w m2 0 e)) (w.drew.alloc (.cells (nv.toArray ++ Builtin.zeroCells z.cells (grownCap w m2 0 e - m2)) e)) := by
        cases a with
        | none => exact run_append_nil (P := P) w t o.type e i z ht h1 h2 q m2 c2 nv hnl n2' (by omega) (by omega) (by rw [h5]; rw [Nat.zero_add] at hbd; omega)
        | some p =>
          have := run_append_grow (P := P) w t o.type e i z ht h1 h2 p 0 0 [] (by simp) (by simp) q m2 c2 nv hnl n2' (by omega) (by omega) (growslice_fits (by omega) (by rw [h5]; omega))
          simpa using this
      rw [hex _ hr]
      refine ⟨(some ⟨w.heap.size, 0, none⟩, grownCap w m2 0 e), by simp [cn, cn1, cn0], ?_⟩
      have hge := grownCap_ge w m2 0 e
      refine Hp.turn (b := w.heap.size) hw (fun h => absurd hcap0 h) hlt0 (fun _ => Nat.le_refl _) (Turns.of_below ((Below.refl _ w).drew.alloc (Nat.le_refl _) _) _) (.inr ⟨w.heap.size, _, rfl, hlt0, heap_alloc_at w.drew _ e, ?_, ?_, ?_⟩) (fun _ p hp => by cases hp; exact .inl rfl)
      · simp only [Array.size_append, List.size_toArray, size_zeroCells, hsz, n1, hnews, ← Nat.add_mul]
        congr 1
        omega
      · simp only [List.nil_append, hnews]
        exact Nat.mul_le_mul_right _ hge
      · intro j u hj
        simp only [List.nil_append] at hj
        rw [← n3] at hj
        simp only [List.getElem?_map, Option.map_eq_some_iff] at hj
        obtain ⟨v, hv, hu⟩ := hj
        refine ⟨v, ?_, hu⟩
        rw [Array.getElem?_append_left (by simpa using (List.getElem?_eq_some_iff.1 hv).1)]
        simpa using hv
    · subst g1
      have hvl : vs.length = us.length := by rw [← g7, List.length_map]
      have hcapm : m ≤ c := by
        rw [hus, hcap] at g5
        exact Nat.le_of_mul_le_mul_right g5 (by omega)
      by_cases hroom : m + m2 ≤ c
      · -- in place
        have hmi : m * i.size = us.length := by rw [hus, h4]
        have hfit : us.length + nv.length ≤ cc.size := by rw [hnl, g4, hcap, ← hmi, h4, ← Nat.add_mul]; exact Nat.mul_le_mul_right _ hroom
        have hfull : Ent.at w0.heap.size w ⟨some ⟨g, 0, none⟩, cc.toList.map cn, cap, e⟩ := by
          refine .inr ⟨g, cc, rfl, g2, g3, g4, by simp [g4], fun j u hj => ?_⟩
          simp only [List.getElem?_map, Option.map_eq_some_iff, Array.getElem?_toList] at hj
          obtain ⟨v, hv, hu⟩ := hj
          exact ⟨v, hv, hu⟩
        obtain ⟨b', w', r1, r2, r3, r4⟩ := run_storeCells_ent (P := P) nv (cc.toList.map cn) 0 us.length w (some ⟨g, 0, none⟩) cap e n4 (by simpa using hfit) hfull
        have hbb : b' = g := by
          have hnv : nv ≠ [] := by
            intro h0
            rw [h0] at hnl
            have : m2 * i.size = 0 := by simpa using hnl.symm
            rcases mul_zero_cases this with h | h
            · exact hm2 h
            · exact h6 (by rw [← h4]; exact h)
          have := r2 hnv
          injection this with h; injection h with h; exact h.symm
        subst hbb
        have hfc : (Builtin.firstCells i.size m2 (.slice (some q) m2 c2)).run P w = .ok nv.toArray w := run_firstCells_some (P := P) w i.size m2 q m2 c2 nv hnl n2'
        have hr : (Builtin.append_ #[t, t] o.type #[.slice (some ⟨b', 0, none⟩) m c, .slice (some q) m2 c2]).run P w = .ok (.slice (some ⟨b', 0, none⟩) (m + m2) c) w' := by
          have r1' : (storeCells ((⟨b', 0, none⟩ : Addr).add (m * i.size)) nv).run P w = .ok () w' := by rw [hmi, adr_add (p := ⟨b', 0, none⟩) rfl]; exact r1
          simp [Builtin.append_, run_underlying ht, sizeOf, typeInfo, program, Sem.run, h1, Builtin.lenOf, hroom, hfc, r1']
        rw [hex _ hr]
        refine ⟨(some ⟨b', 0, none⟩, c), by simp [cn, cn1, cn0], ?_⟩
        have r5 : Ent.at w0.heap.size w' ⟨some ⟨b', 0, none⟩, us ++ news, c * zero.length, e⟩ := by
          rw [← hcap]
          rcases r4 with h | ⟨b2, c2', k1, k2, k3, k4, k5, k6⟩
          · exfalso
            have h := h.1
            simp only at h
            have := congrArg List.length h
            rw [setAt_length, List.length_map, Array.length_toList, List.length_nil] at this
            have hn1 : 0 < nv.length := by
              rw [hnl, h4]; exact Nat.mul_pos (by omega) (by omega)
            omega
          · refine .inr ⟨b2, c2', k1, k2, k3, k4, ?_, fun j u hj => k6 j u ?_⟩
            · simp only [List.length_append]
              rw [← n3, List.length_map]
              omega
            · simp only at hj ⊢
              rw [setAt_nth _ _ _ _ (by simpa using hfit)]
              have hjl := (List.getElem?_eq_some_iff.1 hj).1
              simp only [List.length_append] at hjl
              rw [← n3] at hj hjl
              by_cases hju : j < us.length
              · rw [if_neg (by omega)]
                rw [List.getElem?_append_left hju, ← g7, ← g6] at hj
                rw [List.map_take, List.getElem?_take, if_pos hju] at hj
                exact hj
              · rw [if_pos (by simp only [Nat.add_zero]; omega)]
                rw [List.getElem?_append_right (by omega)] at hj
                exact hj
        refine Hp.turn (b := b') hw (fun _ => ⟨_, rfl, rfl⟩) g2 (fun h => ?_) r3 r5 (fun _ p hp => by cases hp; exact .inl rfl)
        exact absurd h (by
          simp only
          rw [hcap]
          intro h
          rcases mul_zero_cases h with h | h
          · omega
          · exact h6 h)
      · have holds : ∀ j u, vs[j]? = some u → w.cell? ((⟨g, 0, none⟩ : Addr).add j) = some u := fun j u hj => by
          rw [adr_add rfl]
          rw [← g6, List.getElem?_take] at hj
          split at hj
          · rw [show adr (some ⟨g, 0, none⟩) j = ⟨g, j, none⟩ from by simp [adr], g3.cell]
            simpa using hj
          · cases hj
        have hr := run_append_grow (P := P) w t o.type e i z ht h1 h2 ⟨g, 0, none⟩ m c vs (by rw [hvl, hus, h4]) holds q m2 c2 nv hnl n2' (by omega) (by omega) (growslice_fits (by omega) (by rw [h5]; omega))
        rw [hex _ hr]
        refine ⟨(some ⟨w.heap.size, 0, none⟩, grownCap w (m + m2) c e), by simp [cn, cn1, cn0], ?_⟩
        have hge := grownCap_ge w (m + m2) c e
        have hbel : Below w.heap.size w (w.drew.alloc (.cells (vs.toArray ++ nv.toArray ++ Builtin.zeroCells z.cells (grownCap w (m + m2) c e - (m + m2))) e)) := (Below.refl _ w).drew.alloc (Nat.le_refl _) _
        have hg : g < w.heap.size := g3.lt
        have hnew : Ent.at w0.heap.size (w.drew.alloc (.cells (vs.toArray ++ nv.toArray ++ Builtin.zeroCells z.cells (grownCap w (m + m2) c e - (m + m2))) e)) ⟨some ⟨w.heap.size, 0, none⟩, us ++ news, grownCap w (m + m2) c e * zero.length, e⟩ := by
          refine .inr ⟨w.heap.size, _, rfl, hlt0, heap_alloc_at w.drew _ e, ?_, ?_, ?_⟩
          · simp only [Array.size_append, List.size_toArray, size_zeroCells, hsz, n1, hnews, hvl, hus, ← Nat.add_mul]
            congr 1
            omega
          · simp only [List.length_append, hus, hnews, ← Nat.add_mul]
            exact Nat.mul_le_mul_right _ hge
          · intro j u hj
            simp only at hj
            rw [← g7, ← n3, ← List.map_append, List.getElem?_map, Option.map_eq_some_iff] at hj
            obtain ⟨v, hv, hu⟩ := hj
            refine ⟨v, ?_, hu⟩
            have hjl := (List.getElem?_eq_some_iff.1 hv).1
            rw [Array.getElem?_append_left (by simpa using hjl)]
            rw [← List.getElem?_toArray] at hv
            simpa using hv
        by_cases hc0 : c = 0
        · have hz : cap = 0 := by rw [hcap, hc0, Nat.zero_mul]
          exact Hp.turn (b := w.heap.size) hw (fun h => absurd hz h) hlt0 (fun _ => Nat.le_refl _) (Turns.of_below hbel _) hnew (fun _ p hp => by cases hp; exact .inl rfl)
        · exact Hp.turn (b := g) hw (fun _ => ⟨_, rfl, rfl⟩) g2 (fun h => absurd h (by
            simp only
            rw [hcap]
            intro h
            rcases mul_zero_cases h with h | h
            · exact hc0 h
            · exact h6 h)) (Turns.of_below hbel _) hnew (fun _ p hp => by cases hp; exact .inr (Nat.le_refl _))
/-- .. the element's size as a numeral -/
theorem yc_appendz [PhC] {s x : Operand} {t e : TypeId} {zero : List Value} {bytes : Nat} {a b : Option Addr} {m c m2 c2 cap : Nat} {us news : List Value} {O' : Option Addr × Nat → List Ent} (z : Nat) (hz : zero.length = z) (ho : o.op = .call ⟨.builtin .append, #[s, x], #[t, t]⟩) (ht : P.underlying t = some (.slice e)) (hE' : Elt P e zero bytes)
    (hs : E.opd s = some (.slice a m c)) (hx : E.opd x = some (.slice b m2 c2)) (hO : UpdF O ⟨a, us, cap, e⟩ (fun p : Option Addr × Nat => ⟨p.1, us ++ news, p.2 * z, e⟩) O') (hsee : Sees w0 O b news) (hcap : cap = c * z) (hus : us.length = m * z) (hnews : news.length = m2 * z) (hsu : us.all scal = true) (hsn : news.all scal = true)
    (hbd : (m + m2) * bytes ≤ 140737488355328) (hbd' : m + m2 ≤ 140737488355328) :
    YC P w0 O E o (fun p : Option Addr × Nat => .slice p.1 (m + m2) p.2) O' := by
  subst hz
  exact yc_append ho ht hE' hs hx hO hsee hcap hus hnews hsu hsn hbd hbd'
theorem yn_makeSlicez [PhC] {t e : TypeId} {x y : Operand} {m bytes : Nat} {zero : List Value} (z : Nat) (hz : zero.length = z) (ho : o.op = .makeSlice t x y) (ht : P.underlying t = some (.slice e)) (hE' : Elt P e zero bytes) (hzc : zero.map cn = zero)
    (hx : E.opd x = some (.int .i64 m)) (hy : E.opd y = some (.int .i64 m)) (hm : m * bytes ≤ 140737488355328) (hm' : m ≤ 140737488355328) :
    YN P w0 O E o (fun b : Nat => .slice (some ⟨b, 0, none⟩) m m) (fun b => [⟨some ⟨b, 0, none⟩, cycle zero m, m * z, e⟩]) := by
  subst hz
  exact yn_makeSlice ho ht hE' hzc hx hy hm hm'
end
end Go.Proofs.Ytgeflnjjppgooaa.Q

namespace Go.Proofs.Ytgeflnjjppgooaa.Q
open Go.RowKit
section
variable {P : Program} {n : Nat} {w0 : World} {O : List Ent} {E : Env} {ops : Array Oper}
theorem YQ.weaken [PhC] {E' : Env} {O' : List Ent} {o : Oper} {u : Value} (h : YQ P w0 O E o u) (hE : ∀ x ∈ o.op.operands, E'.opd x = E.opd x) (hO : ∀ w, Hp w0 O' w → Hp w0 O w) : YQ P w0 O' E' o u :=
  fun ρ w hρ hw => h ρ w (fun x hx u hu => hρ x hx u (by rw [hE x hx]; exact hu)) (hO w hw)
/-- What an operation does: a value and what is owned then, for some x. -/
inductive Eff [PhC] (P : Program) (w0 : World) (ops : Array Oper) : Kd → Oper → Env → List Ent → (X : Type) → (X → Value) → (X → List Ent) → Prop
  | skip {k : Kd} {o : Oper} {E : Env} {O : List Ent} : Guard ops E o false → Eff P w0 ops k o E O Unit (fun _ => undef) (fun _ => O)
  | quiet {o : Oper} {E : Env} {O : List Ent} {u : Value} : Guard ops E o true → YQ P w0 O E o u → Eff P w0 ops 0 o E O Unit (fun _ => u) (fun _ => O)
  | make {o : Oper} {E : Env} {O : List Ent} {X : Type} {u : X → Value} {N : X → List Ent} : Guard ops E o true → YN P w0 O E o u N → Eff P w0 ops 1 o E O X u (fun x => N x ++ O)
  | turn {o : Oper} {E : Env} {O : List Ent} {X : Type} {u : X → Value} {O' : X → List Ent} : Guard ops E o true → YC P w0 O E o u O' → Eff P w0 ops 3 o E O X u O'
/-- One operation, and K behind it. -/
def Stp [PhC] (P : Program) (n : Nat) (w0 : World) (ops : Array Oper) (k : Kd) (o : Oper) (E : Env) (O : List Ent) (K : Env → List Ent → Prop) : Prop :=
  if k = 2 then AOk P n o ∧ ∀ b, K (putE E o.dst (aptr b)) (aent P o b :: O)
  else ∃ (X : Type) (u : X → Value) (O' : X → List Ent), Eff P w0 ops k o E O X u O' ∧ DOk n o ∧ ∀ x, K (putE E o.dst (u x)) (O' x)
/-- The walk: the operations of π in this order. -/
def SW [PhC] (P : Program) (n : Nat) (w0 : World) (ops : Array Oper) (K : Env → List Ent → Prop) : List (Nat × Kd) → Env → List Ent → Prop
  | [], E, O => K E O
  | (i, k) :: π, E, O => ∃ o, ops[i]? = some o ∧ Stp P n w0 ops k o E O (SW P n w0 ops K π)
theorem YN.weaken [PhC] {E' : Env} {O' : List Ent} {o : Oper} {X : Type} {u : X → Value} {N : X → List Ent} (h : YN P w0 O E o u N) (hE : ∀ x ∈ o.op.operands, E'.opd x = E.opd x) (hO : ∀ w, Hp w0 O' w → Hp w0 O w) : YN P w0 O' E' o u N :=
  fun ρ w hρ hw => h ρ w (fun x hx u hu => hρ x hx u (by rw [hE x hx]; exact hu)) (hO w hw)
/-- The effect, seen from what says the same. -/
theorem Eff.lax [PhC] {E' : Env} {O' : List Ent} {k : Kd} {o : Oper} {X : Type} {u : X → Value} {R : X → List Ent} (hE : ∀ t, E'.get t = E.get t) (hO : ∀ F w, Hp w0 (F ++ O') w → Hp w0 (F ++ O) w) (h : Eff P w0 ops k o E O X u R) :
    ∃ R', Eff P w0 ops k o E' O' X u R' ∧ ∀ x F w, Hp w0 (F ++ R' x) w → Hp w0 (F ++ R x) w := by
  have hop := opd_same hE
  cases h with
  | skip hg => exact ⟨_, .skip (hg.same fun t _ => hE t), fun _ => hO⟩
  | quiet hg h => exact ⟨_, .quiet (hg.same fun t _ => hE t) (h.weaken (fun x _ => hop x) (hp_nil hO)), fun _ => hO⟩
  | make hg h => exact ⟨_, .make (hg.same fun t _ => hE t) (h.weaken (fun x _ => hop x) (hp_nil hO)), fun x => Hp.perm hO⟩
  | turn hg h => exact ⟨_, .turn (hg.same fun t _ => hE t) (fun ρ w F hρ hw => h ρ w F (fun x hx u hu => hρ x hx u (by rw [hop x]; exact hu)) (hO F w hw)), fun _ _ _ h => h⟩
theorem Stp.lax [PhC] {k : Kd} {o : Oper} {K : Env → List Ent → Prop} (hK : Lax w0 K) : Lax w0 (fun E O => Stp P n w0 ops k o E O K) := by
  intro E E' O O' hE hO h
  simp only [Stp] at h ⊢
  split at h
  · rename_i hk
    rw [if_pos hk]
    exact ⟨h.1, fun b => hK _ _ _ _ (put_congr hE _ _) (fun F w => by simpa using Hp.perm (N := [aent P o b]) hO F w) (h.2 b)⟩
  · rename_i hk
    rw [if_neg hk]
    obtain ⟨X, u, R, h1, h2, h3⟩ := h
    obtain ⟨R', h4, h5⟩ := h1.lax hE hO
    exact ⟨X, u, R', h4, h2, fun x => hK _ _ _ _ (put_congr hE _ _) (h5 x) (h3 x)⟩
theorem SW.lax [PhC] {K : Env → List Ent → Prop} (hK : Lax w0 K) : ∀ π, Lax w0 (SW P n w0 ops K π)
  | [] => hK
  | (i, k) :: π => by
    intro E E' O O' hE hO ⟨o, ho, h⟩
    exact ⟨o, ho, Stp.lax (SW.lax hK π) _ _ _ _ hE hO h⟩
theorem Eff.put [PhC] {k : Kd} {o : Oper} {d : Option Nat} {u : Value} {X : Type} {v : X → Value} {R : X → List Ent} (h : ∀ x, d = some x → (o.looksAt ops).contains x = false) :
    Eff P w0 ops k o (putE E d u) O X v R ↔ Eff P w0 ops k o E O X v R := by
  constructor
  · intro he
    cases he with
    | skip hg => exact .skip ((guard_put h).1 hg)
    | quiet hg hy => exact .quiet ((guard_put h).1 hg) (hy.weaken (fun x hx => (opd_put h u x hx).symm) fun _ h => h)
    | make hg hy => exact .make ((guard_put h).1 hg) (hy.weaken (fun x hx => (opd_put h u x hx).symm) fun _ h => h)
    | turn hg hy => exact .turn ((guard_put h).1 hg) (fun ρ w F hρ hw => hy ρ w F (fun x hx v hv => hρ x hx v (by rw [← opd_put h u x hx]; exact hv)) hw)
  · intro he
    cases he with
    | skip hg => exact .skip ((guard_put h).2 hg)
    | quiet hg hy => exact .quiet ((guard_put h).2 hg) (hy.weaken (fun x hx => opd_put h u x hx) fun _ h => h)
    | make hg hy => exact .make ((guard_put h).2 hg) (hy.weaken (fun x hx => opd_put h u x hx) fun _ h => h)
    | turn hg hy => exact .turn ((guard_put h).2 hg) (fun ρ w F hρ hw => hy ρ w F (fun x hx v hv => hρ x hx v (by rw [opd_put h u x hx]; exact hv)) hw)
/-- .. with one entry more -/
theorem Eff.beside [PhC] {k : Kd} {o : Oper} {e : Ent} {X : Type} {v : X → Value} {R : X → List Ent} (he : Eff P w0 ops k o E O X v R) :
    ∃ R', Eff P w0 ops k o E (e :: O) X v R' ∧ ∀ x F w, Hp w0 (F ++ R' x) w → Hp w0 (F ++ (e :: R x)) w := by
  have hsub : ∀ w, Hp w0 (e :: O) w → Hp w0 O w := fun w h => h.sub (List.sublist_cons_self e O)
  cases he with
  | skip hg => exact ⟨_, .skip hg, fun _ _ _ h => h⟩
  | quiet hg hy => exact ⟨_, .quiet hg (hy.weaken (fun _ _ => rfl) hsub), fun _ _ _ h => h⟩
  | make hg hy =>
    exact ⟨_, .make hg (hy.weaken (fun _ _ => rfl) hsub), fun x F w h => swap_hp (N := _) (M := [e]) F w h⟩
  | turn hg hy =>
    refine ⟨fun x => e :: R x, .turn hg fun ρ w F hρ hw => ?_, fun _ _ _ h => h⟩
    have := hy ρ w (F ++ [e]) hρ (by simpa using hw)
    refine this.mono fun v w' ⟨x, h1, h2⟩ => ⟨x, h1, by simpa using h2⟩
theorem Stp.swap [PhC] {kp kq : Kd} {p q : Oper} {K : Env → List Ent → Prop} (hK : Lax w0 K) (hs : swapOk ops kp kq p q = true) (hA : kq = 2 → AOk P n q)
    (h : Stp P n w0 ops kp p E O (fun E O => Stp P n w0 ops kq q E O K)) : Stp P n w0 ops kq q E O (fun E O => Stp P n w0 ops kp p E O K) := by
  simp only [swapOk, Bool.and_eq_true, Bool.or_eq_true, beq_iff_eq] at hs
  obtain ⟨⟨hs1, hs2⟩, hs3⟩ := hs
  have d1 : ∀ d, p.dst = some d → (q.looksAt ops).contains d = false := fun d hd => by rw [hd] at hs1; simpa using (Bool.and_eq_true_iff.1 hs1).1
  have d2 : ∀ d, p.dst = some d → q.dst ≠ some d := fun d hd => by rw [hd] at hs1; simpa using (Bool.and_eq_true_iff.1 hs1).2
  have d3 : ∀ d, q.dst = some d → (p.looksAt ops).contains d = false := fun d hd => by rw [hd] at hs2; simpa using hs2
  have hid : ∀ (O : List Ent) (F : List Ent) (w : World), Hp w0 (F ++ O) w → Hp w0 (F ++ O) w := fun _ _ _ h => h
  by_cases hq : kq = 2
  · -- the second makes a variable
    have hA' := hA hq
    subst hq
    simp only [Stp, if_true] at h ⊢
    refine ⟨hA', fun b => ?_⟩
    split at h
    · rename_i hp
      rw [if_pos hp]
      refine ⟨h.1, fun c => ?_⟩
      have h3 := (h.2 c).2 b
      refine hK _ _ _ _ (fun t => (put_swap d2 _ _ E t).symm) (fun F w hw => ?_) h3
      have := swap_hp (N := [aent P p c]) (M := [aent P q b]) (O := O) F w (by simpa using hw)
      simpa using this
    · rename_i hp
      rw [if_neg hp]
      obtain ⟨X, u, R, h1, h2, h3⟩ := h
      obtain ⟨R', h4, h5⟩ := h1.beside (e := aent P q b)
      refine ⟨X, u, R', (Eff.put d3).2 h4, h2, fun x => ?_⟩
      exact hK _ _ _ _ (fun t => (put_swap d2 _ _ E t).symm) (h5 x) ((h3 x).2 b)
  · have h0 : kp = 0 ∧ (kq = 0 ∨ kq = 1) := by
      rcases hs3 with ⟨h1, (h2 | h2) | h2⟩ | h2
      · exact ⟨h1, .inl h2⟩
      · exact ⟨h1, .inr h2⟩
      · exact absurd h2 hq
      · exact absurd h2 hq
    obtain ⟨rfl, hk⟩ := h0
    simp only [Stp, if_neg hq] at h ⊢
    rw [if_neg (by decide)] at h
    obtain ⟨X, u, R, h1, h2, h3⟩ := h
    -- the first is quiet, or does not come to its turn
    obtain ⟨u0, hu0, hp⟩ : ∃ u0, (∃ Y v S, Eff P w0 ops kq q (putE E p.dst u0) O Y v S ∧ DOk n q ∧ ∀ y, K (putE (putE E p.dst u0) q.dst (v y)) (S y)) ∧ ∀ E' O', (∀ x ∈ p.op.operands, E'.opd x = E.opd x) → (∀ g, Guard ops E p g → Guard ops E' p g) → (∀ w, Hp w0 O' w → Hp w0 O w) → Eff P w0 ops 0 p E' O' Unit (fun _ => u0) (fun _ => O') := by
      cases h1 with
      | skip hg => exact ⟨undef, h3 (), fun E' O' _ hg' _ => .skip (hg' _ hg)⟩
      | quiet hg hy => exact ⟨_, h3 (), fun E' O' hE hg' hO => .quiet (hg' _ hg) (hy.weaken hE hO)⟩
    obtain ⟨Y, v, S, g1, g2, g3⟩ := hu0
    have g1' := (Eff.put d1).1 g1
    refine ⟨Y, v, S, g1', g2, fun y => ?_⟩
    rw [if_neg (by decide)]
    have hsub : ∀ w, Hp w0 (S y) w → Hp w0 O w := by
      cases g1' with
      | skip _ => exact fun _ h => h
      | quiet _ _ => exact fun _ h => h
      | make _ _ => exact fun w h => sub_hp w h
      | turn _ _ => rcases hk with h | h <;> exact absurd h (by decide)
    exact ⟨Unit, fun _ => u0, fun _ => S y, hp _ _ (opd_put d3 _) (fun g hg => (guard_put d3).2 hg) hsub, h2, fun _ => hK _ _ _ _ (fun t => (put_swap d2 _ _ E t).symm) (hid _) (g3 y)⟩
theorem SW.front [PhC] {K : Env → List Ent → Prop} (hK : Lax w0 K) {i : Nat} {k : Kd} {q : Oper} (hq : ops[i]? = some q) (hA : k = 2 → AOk P n q) : ∀ (A B : List (Nat × Kd)) (E : Env) (O : List Ent),
    (∀ j kj, (j, kj) ∈ A → ∃ p, ops[j]? = some p ∧ swapOk ops kj k p q = true) → SW P n w0 ops K (A ++ (i, k) :: B) E O → SW P n w0 ops K ((i, k) :: (A ++ B)) E O
  | [], _, _, _, _, h => h
  | (j, kj) :: A, B, E, O, hs, h => by
    obtain ⟨p, hp, h⟩ := h
    obtain ⟨p', hp', hsw⟩ := hs j kj List.mem_cons_self
    obtain rfl : p = p' := Option.some.inj (hp.symm.trans hp')
    have h2 : Stp P n w0 ops kj p E O (fun E O => Stp P n w0 ops k q E O (SW P n w0 ops K (A ++ B))) := by
      have ih := fun E O => SW.front hK hq hA A B E O (fun j kj hj => hs j kj (List.mem_cons_of_mem _ hj))
      have key : ∀ E O, SW P n w0 ops K (A ++ (i, k) :: B) E O → Stp P n w0 ops k q E O (SW P n w0 ops K (A ++ B)) := fun E O h => by
        obtain ⟨q', hq', h'⟩ := ih E O h
        obtain rfl : q = q' := Option.some.inj (hq.symm.trans hq')
        exact h'
      simp only [Stp] at h ⊢
      split at h
      · rename_i hk; rw [if_pos hk]; exact ⟨h.1, fun b => key _ _ (h.2 b)⟩
      · rename_i hk; rw [if_neg hk]
        obtain ⟨X, u, R, h1, h2, h3⟩ := h
        exact ⟨X, u, R, h1, h2, fun x => key _ _ (h3 x)⟩
    have h3 := Stp.swap (SW.lax hK (A ++ B)) hsw hA h2
    refine ⟨q, hq, ?_⟩
    simp only [Stp] at h3 ⊢
    split at h3
    · rename_i hk; rw [if_pos hk]; exact ⟨h3.1, fun b => ⟨p, hp, h3.2 b⟩⟩
    · rename_i hk; rw [if_neg hk]
      obtain ⟨X, u, R, h1, h2, h4⟩ := h3
      exact ⟨X, u, R, h1, h2, fun x => ⟨p, hp, h4 x⟩⟩
theorem run_alloc_ent [PhC] {o : Oper} (h : AOk P n o) (ρ : Operand → Value) (w : World) : ResOk P (fun v w' => ∃ b, cn v = aptr b ∧ Below w.heap.size w w' ∧ Ent.at w.heap.size w' (aent P o b)) ((execOp ρ o).run P w) := by
  obtain ⟨_, ⟨e, z, h1, h2⟩, _⟩ := h
  have hr : (execOp ρ o).run P w = .ok (.value (.pointer (some ⟨w.heap.size, 0, none⟩))) (w.alloc (.cells z.cells.toList.toArray e)) := by
    simp [execOp, h1, Instr.alloc, newVar, run_newRow, info_zero h2]
  rw [hr]
  refine ⟨w.heap.size, by simp [cn, cn1, cn0, adr, aptr], below_alloc _ _ _, ?_⟩
  simp only [aent, h1, h2]
  exact ent_new w _ _ e rfl
theorem Stp.wpOp [PhC] {k : Kd} {o : Oper} {i : Nat} {Q : Exit → Act → World → Prop} {K : Env → List Ent → Prop} {R : Act → World → Prop} (ho : ops[i]? = some o) (h : Stp P n w0 ops k o E O K) (hR : ∀ E' O', K E' O' → VX n w0 O' E' R) {a : Act} {w : World} (ha : Models n E a) (hw : Hp w0 O w) : wqOp P ops Q i R a w := by
  unfold wqOp
  simp only [ho]
  simp only [Stp] at h
  split at h
  · obtain ⟨hA, h⟩ := h
    have hd : DOk n o := fun d hd => by obtain ⟨d', h1, h2⟩ := hA.2.2; rw [h1] at hd; cases hd; exact h2
    rw [if_pos (by simp [Region.wanted, hA.1])]
    refine .inl ?_
    unfold OperWq
    refine (run_alloc_ent hA a.eval w).upon fun v w' ⟨b, h1, h2, h3⟩ => ?_
    exact hR _ _ (h b) _ _ (models_put ha hd h1) (hw.new h2 h3)
  · obtain ⟨X, u, R', h1, hd, h3⟩ := h
    cases h1 with
    | skip hg =>
      rw [if_neg (by rw [hg.wanted ha]; decide)]
      exact hR _ _ (h3 ()) _ _ (models_put ha hd (by simp [undef, cn])) hw
    | quiet hg hy =>
      rw [if_pos (hg.wanted ha)]
      refine .inl ?_
      unfold OperWq
      refine (hy a.eval w (ha.ev _) hw).upon fun v w' ⟨h1, h2⟩ => ?_
      exact hR _ _ (h3 ()) _ _ (models_put ha hd h1) (hw.ext h2)
    | make hg hy =>
      rw [if_pos (hg.wanted ha)]
      refine .inl ?_
      unfold OperWq
      refine (hy a.eval w (ha.ev _) hw).upon fun v w' ⟨x, h1, h2, h4, h5⟩ => ?_
      exact hR _ _ (h3 x) _ _ (models_put ha hd h1) (hw.news h2 h4 h5)
    | turn hg hy =>
      rw [if_pos (hg.wanted ha)]
      refine .inl ?_
      unfold OperWq
      refine (hy a.eval w [] (ha.ev _) (by simpa using hw)).upon fun v w' ⟨x, h1, h2⟩ => ?_
      exact hR _ _ (h3 x) _ _ (models_put ha hd h1) (by simpa using h2)
theorem any_of_walk [PhC] {Q : Exit → Act → World → Prop} {K : Env → List Ent → Prop} (hK : Lax w0 K) (hQ : ∀ E O, K E O → VX n w0 O E (Q .normal)) (hback : backOk ops = true) :
    ∀ (fuel : Nat) (π : List (Nat × Kd)) (listed : Array Bool) (E : Env) (O : List Ent) (a : Act) (w : World), π.length ≤ fuel → listed.size = ops.size → (∀ j, j < ops.size → (listed.getD j true = false ↔ ∃ k, (j, k) ∈ π)) → (π.map (·.1)).Nodup →
      (∀ j o, ops[j]? = some o → listed.getD j false = true → ∀ e ∈ o.after, Region.binds .any e = true → listed.getD e.on false = true) → pairsOk ops π = true → (∀ j o, (j, 2) ∈ π → ops[j]? = some o → AOk P n o) →
      SW P n w0 ops K π E O → Models n E a → Hp w0 O w → wqAny P .any ops Q fuel listed a w := by
  have hnone : ∀ (π : List (Nat × Kd)) (listed : Array Bool) (E : Env) (O : List Ent) (a : Act) (w : World), listed.size = ops.size → (∀ j, j < ops.size → (listed.getD j true = false ↔ ∃ k, (j, k) ∈ π)) → Region.ready .any ops listed = [] → SW P n w0 ops K π E O → (∀ j k, (j, k) ∈ π → j < ops.size) → Models n E a → Hp w0 O w → Q .normal a w := by
    intro π listed E O a w hsz hl hr hS hlt ha hw
    have hnil : π = [] := by
      apply Classical.byContradiction
      intro hne
      -- the least index that is not listed could come up
      have hex : ∃ j, j < ops.size ∧ listed.getD j true = false := by
        cases π with
        | nil => exact absurd rfl hne
        | cons x π => obtain ⟨j, k⟩ := x; exact ⟨j, hlt j k List.mem_cons_self, (hl j (hlt j k List.mem_cons_self)).2 ⟨k, List.mem_cons_self⟩⟩
      have hmin : ∀ m, (∃ j, j ≤ m ∧ j < ops.size ∧ listed.getD j true = false) → ∃ j, j < ops.size ∧ listed.getD j true = false ∧ ∀ i, i < j → listed.getD i true = true := by
        intro m
        induction m with
        | zero => rintro ⟨j, hj, h1, h2⟩; exact ⟨j, h1, h2, fun i hi => by omega⟩
        | succ m ih =>
          rintro ⟨j, hj, h1, h2⟩
          by_cases h : ∃ j, j ≤ m ∧ j < ops.size ∧ listed.getD j true = false
          · exact ih h
          · refine ⟨j, h1, h2, fun i hi => ?_⟩
            cases hi' : listed.getD i true with
            | true => rfl
            | false => exact absurd ⟨i, by omega, by omega, hi'⟩ h
      obtain ⟨j, hj⟩ := hex
      obtain ⟨j, h1, h2, h3⟩ := hmin j ⟨j, Nat.le_refl _, hj⟩
      have hmem : j ∈ Region.ready .any ops listed := by
        refine mem_ready.2 ⟨h2, ops[j], Array.getElem?_eq_getElem h1, fun e he hb => ?_⟩
        have hb' := List.all_eq_true.1 hback j (List.mem_range.2 h1)
        rw [Array.getElem?_eq_getElem h1] at hb'
        have hlt' := Array.all_eq_true'.1 hb' e he
        simp only [hb, Bool.not_true, Bool.false_or, decide_eq_true_eq] at hlt'
        have := h3 e.on hlt'
        have hs : e.on < listed.size := by omega
        simpa [hs] using this
      rw [hr] at hmem
      cases hmem
    subst hnil
    exact hQ E O hS a w ha hw
  intro fuel
  induction fuel with
  | zero =>
    intro π listed E O a w hf hsz hl _ _ _ _ hS ha hw
    have hnil : π = [] := List.eq_nil_of_length_eq_zero (by omega)
    subst hnil
    refine ⟨?_, hQ E O hS a w ha hw⟩
    apply List.eq_nil_iff_forall_not_mem.2
    intro i hi
    obtain ⟨h1, o, h2, _⟩ := mem_ready.1 hi
    obtain ⟨k, hk⟩ := (hl i (Array.getElem?_eq_some_iff.1 h2).1).1 h1
    cases hk
  | succ fuel ih =>
    intro π listed E O a w hf hsz hl hnd hcl hp hA hS ha hw
    have hltπ : ∀ (π : List (Nat × Kd)) (E : Env) (O : List Ent), pairsOk ops π = true → SW P n w0 ops K π E O → True := fun _ _ _ _ _ => trivial
    refine ⟨fun hr => ?_, fun i hi => ?_⟩
    · -- nothing may come up
      refine hnone π listed E O a w hsz hl hr hS (fun j k hj => ?_) ha hw
      -- an index of π is one of the region's
      have : ∀ (π : List (Nat × Kd)), pairsOk ops π = true → 2 ≤ π.length → ∀ j k, (j, k) ∈ π → j < ops.size := by
        intro π hp h2 j k hj
        obtain ⟨A, B, rfl⟩ := List.append_of_mem hj
        cases A with
        | nil =>
          cases B with
          | nil => simp at h2
          | cons y B =>
            simp only [List.nil_append, pairsOk, Bool.and_eq_true, List.all_eq_true] at hp
            have := hp.1 y List.mem_cons_self
            obtain ⟨y1, y2⟩ := y
            dsimp only at this
            cases hj' : ops[j]? with
            | none => rw [hj'] at this; simp at this
            | some o => exact (Array.getElem?_eq_some_iff.1 hj').1
        | cons x A =>
          obtain ⟨x1, x2⟩ := x
          obtain ⟨g, _⟩ := pairsOk_mid ((x1, x2) :: A) B hp
          obtain ⟨p, q, _, hq, _⟩ := g x1 x2 List.mem_cons_self
          exact (Array.getElem?_eq_some_iff.1 hq).1
      by_cases h2 : 2 ≤ π.length
      · exact this π hp h2 j k hj
      · cases π with
        | nil => cases hj
        | cons x π =>
          have : π = [] := List.eq_nil_of_length_eq_zero (by simp only [List.length_cons] at h2; omega)
          subst this
          simp only [List.mem_singleton] at hj
          subst hj
          obtain ⟨o, ho, _⟩ := hS
          exact (Array.getElem?_eq_some_iff.1 ho).1
    · obtain ⟨h1, o, h2, h3⟩ := mem_ready.1 hi
      have hlt := (Array.getElem?_eq_some_iff.1 h2).1
      obtain ⟨k, hk⟩ := (hl i hlt).1 h1
      obtain ⟨A, B, rfl⟩ := List.append_of_mem hk
      obtain ⟨g1, g2⟩ := pairsOk_mid A B hp
      have hnot : ∀ j kj, (j, kj) ∈ A → listed.getD j false = false := fun j kj hj => by
        obtain ⟨p, q, hp', _⟩ := g1 j kj hj
        have := (hl j (Array.getElem?_eq_some_iff.1 hp').1).2 ⟨kj, List.mem_append.2 (.inl hj)⟩
        exact getDb this
      have hsw : ∀ j kj, (j, kj) ∈ A → ∃ p, ops[j]? = some p ∧ swapOk ops kj k p o = true := fun j kj hj => by
        obtain ⟨p, q, hp', hq', h⟩ := g1 j kj hj
        obtain rfl : o = q := Option.some.inj (h2.symm.trans hq')
        rcases h with h | h
        · have := reach_listed hcl ops.size [i] j (fun j' hj' o' ho' e he hb => by
            simp only [List.mem_singleton] at hj'
            subst hj'
            obtain rfl : o = o' := Option.some.inj (h2.symm.trans ho')
            exact h3 e he hb) h
          rw [hnot j kj hj] at this
          cases this
        · exact ⟨p, hp', h⟩
      have hfront := SW.front hK h2 (fun hk2 => hA i o (by subst hk2; exact hk) h2) A B E O hsw hS
      obtain ⟨o', ho', hst⟩ := hfront
      obtain rfl : o = o' := Option.some.inj (h2.symm.trans ho')
      have hi' : i < listed.size := by omega
      intro w1 hx
      refine Stp.wpOp (ops := ops) h2 hst (fun E' O' hS' a' w' ha' hw' => ?_) ha (hw.ext hx)
      refine ih (A ++ B) _ E' O' a' w' (by simp only [List.length_append, List.length_cons] at hf ⊢; omega) (by simpa using hsz) (fun j hj => ?_) ?_ (fun j oj hoj hlj e he hb => ?_) g2 (fun j oj hj => hA j oj (by
        rcases List.mem_append.1 hj with hj | hj
        · exact List.mem_append.2 (.inl hj)
        · exact List.mem_append.2 (.inr (List.mem_cons_of_mem _ hj)))) hS' ha' hw'
      · rw [getD_set hi']
        have hndi : ∀ k', (i, k') ∉ A ++ B := by
          intro k' hk'
          simp only [List.map_append, List.map_cons] at hnd
          rw [List.nodup_append] at hnd
          obtain ⟨n1, n2, n3⟩ := hnd
          rcases List.mem_append.1 hk' with hk' | hk'
          · exact n3 i (List.mem_map_of_mem (f := (·.1)) hk') i List.mem_cons_self rfl
          · exact (List.nodup_cons.1 n2).1 (List.mem_map_of_mem (f := (·.1)) hk')
        by_cases hij : i = j
        · subst hij
          rw [if_pos rfl]
          exact ⟨fun h => by (cases h), fun ⟨k', hk'⟩ => absurd hk' (hndi k')⟩
        · rw [if_neg hij, hl j hj]
          constructor
          · rintro ⟨k', hk'⟩
            refine ⟨k', ?_⟩
            rcases List.mem_append.1 hk' with hk' | hk'
            · exact List.mem_append.2 (.inl hk')
            · rcases List.mem_cons.1 hk' with hk' | hk'
              · cases hk'; exact absurd rfl hij
              · exact List.mem_append.2 (.inr hk')
          · rintro ⟨k', hk'⟩
            refine ⟨k', ?_⟩
            rcases List.mem_append.1 hk' with hk' | hk'
            · exact List.mem_append.2 (.inl hk')
            · exact List.mem_append.2 (.inr (List.mem_cons_of_mem _ hk'))
      · simp only [List.map_append, List.map_cons] at hnd ⊢
        exact hnd.sublist (List.Sublist.append_left (List.sublist_cons_self _ _) _)
      · rw [getD_set hi'] at hlj ⊢
        split at hlj
        · rename_i hij
          subst hij
          obtain rfl : o = oj := Option.some.inj (h2.symm.trans hoj)
          rw [h3 e he hb]
          split <;> rfl
        · rw [hcl j oj hoj hlj e he hb]
          split <;> rfl
/-- **A region that draws its order, walked in the order π.** -/
theorem V.draw [PhC] {id : Nat} {l : List Oper} {Q : Exit → Act → World → Prop} (π : List (Nat × Kd)) (hm : P.follows .mixedOrders = true) (hok : (permOk l.length π && pairsOk l.toArray π && backOk l.toArray) = true) (hA : ∀ j o, (j, 2) ∈ π → l[j]? = some o → AOk P n o)
    (h : SW P n w0 l.toArray (fun E O => VE n w0 O E Q .normal) π E O) (hnm : (l.all fun o => frB P o.op) = true := by kernel_rfl) : V P n w0 O E (.region id l.toArray true) Q := by
  intro a w ha hw
  simp only [Bool.and_eq_true] at hok
  obtain ⟨⟨h1, h2⟩, h3⟩ := hok
  obtain ⟨n1, n2⟩ := permOk_nodup h1
  refine wq_region_any (fr_all hnm) hm fun w1 hx => ?_
  have hlen : π.length = l.toArray.size := by
    simp only [permOk, Bool.and_eq_true, decide_eq_true_eq] at h1
    simpa using h1.1.2
  refine any_of_walk (K := fun E O => VE n w0 O E Q .normal) (fun E E' O O' hE hO h a w ha hw => h a w (ha.mono fun t u ht => by rw [hE]; exact ht) (by simpa using hO [] w (by simpa using hw))) (fun _ _ h => h) h3 _ π _ E O a _ (by omega) (by simp) (fun j hj => ?_) n1 (fun j o _ hj => ?_) h2 (fun j o hj ho => hA j o hj (by simpa using ho)) h ha (hw.ext hx)
  · simp only [List.size_toArray] at hj
    exact ⟨fun _ => n2 j hj, fun _ => by simp [hj]⟩
  · rw [getD_replicate_false'] at hj
    cases hj
where
  getD_replicate_false' {m j : Nat} : (Array.replicate m false).getD j false = false := by
    rcases Nat.lt_or_ge j m with h | h
    · simp [h]
    · simp [h]
section
variable {o : Oper} {i d : Nat} {π : List (Nat × Kd)} {K : Env → List Ent → Prop}
theorem SW.q [PhC] {u : Value} (ho : ops[i]? = some o) (hg : Wants ops E o) (hd : o.dst = some d) (hdn : d < n) (hy : YQ P w0 O E o u) (h : SW P n w0 ops K π ((d, u) :: E) O) : SW P n w0 ops K ((i, 0) :: π) E O :=
  ⟨o, ho, by rw [Stp, if_neg (by decide)]; exact ⟨_, _, _, .quiet hg.guard hy, dok hd hdn, fun _ => by rw [hd]; exact h⟩⟩
theorem SW.r [PhC] {u : Value} (ho : ops[i]? = some o) (hg : Wants ops E o) (hd : o.dst = some d) (hdn : d < n) (hy : YR P E o u) (h : SW P n w0 ops K π ((d, u) :: E) O) : SW P n w0 ops K ((i, 0) :: π) E O := SW.q ho hg hd hdn hy.q h
theorem SW.new [PhC] {X : Type} {u : X → Value} {N : X → List Ent} (ho : ops[i]? = some o) (hg : Wants ops E o) (hd : o.dst = some d) (hdn : d < n) (hy : YN P w0 O E o u N) (h : ∀ x, SW P n w0 ops K π ((d, u x) :: E) (N x ++ O)) : SW P n w0 ops K ((i, 1) :: π) E O :=
  ⟨o, ho, by rw [Stp, if_neg (by decide)]; exact ⟨_, _, _, .make hg.guard hy, dok hd hdn, fun x => by rw [hd]; exact h x⟩⟩
theorem SW.new1 [PhC] {X : Type} {u : X → Value} {N : X → Ent} (ho : ops[i]? = some o) (hg : Wants ops E o) (hd : o.dst = some d) (hdn : d < n) (hy : YN P w0 O E o u (fun x => [N x])) (h : ∀ x, SW P n w0 ops K π ((d, u x) :: E) (N x :: O)) : SW P n w0 ops K ((i, 1) :: π) E O := SW.new ho hg hd hdn hy h
theorem SW.c [PhC] {X : Type} {u : X → Value} {O' : X → List Ent} (ho : ops[i]? = some o) (hg : Wants ops E o) (hd : o.dst = some d) (hdn : d < n) (hy : YC P w0 O E o u O') (h : ∀ x, SW P n w0 ops K π ((d, u x) :: E) (O' x)) : SW P n w0 ops K ((i, 3) :: π) E O :=
  ⟨o, ho, by rw [Stp, if_neg (by decide)]; exact ⟨_, _, _, .turn hg.guard hy, dok hd hdn, fun x => by rw [hd]; exact h x⟩⟩
theorem SW.s [PhC] {X : Type} {u : X → Value} {O' : X → List Ent} (ho : ops[i]? = some o) (hg : Wants ops E o) (hd : o.dst = none) (hy : YC P w0 O E o u O') (h : ∀ x, SW P n w0 ops K π E (O' x)) : SW P n w0 ops K ((i, 3) :: π) E O :=
  ⟨o, ho, by rw [Stp, if_neg (by decide)]; exact ⟨_, _, _, .turn hg.guard hy, (fun d h => by rw [hd] at h; cases h), fun x => by rw [hd]; exact h x⟩⟩
theorem SW.no [PhC] {k : Kd} {j t : Nat} {b b' : Bool} (ho : ops[i]? = some o) (hk : k ≠ 2) (hg : o.guard = some (j, b)) (hj : (ops[j]?).bind (·.dst) = some t) (hb : E.get t = some (.bool b')) (hne : (b' == b) = false) (hd : o.dst = some d) (hdn : d < n)
    (h : SW P n w0 ops K π ((d, undef) :: E) O) : SW P n w0 ops K ((i, k) :: π) E O :=
  ⟨o, ho, by
    rw [Stp, if_neg hk]
    refine ⟨_, _, _, .skip (hne ▸ Guard.some hg hj hb), dok hd hdn, fun _ => by rw [hd]; exact h⟩⟩
theorem SW.split [PhC] (hK : Lax w0 K) (t : Nat) (b : Bool) (hb : E.get t = some (.bool b)) (ht : b = true → SW P n w0 ops K π ((t, .bool true) :: E) O) (hf : b = false → SW P n w0 ops K π ((t, .bool false) :: E) O) : SW P n w0 ops K π E O := by
  cases b with
  | true => exact SW.lax hK π _ _ _ _ (fun s => (Env.get_shadow t _ E hb s).symm) (fun _ _ h => h) (ht rfl)
  | false => exact SW.lax hK π _ _ _ _ (fun s => (Env.get_shadow t _ E hb s).symm) (fun _ _ h => h) (hf rfl)
theorem SW.done [PhC] (h : K E O) : SW P n w0 ops K [] E O := h
end
end
end Go.Proofs.Ytgeflnjjppgooaa.Q

namespace Go.Proofs.Ytgeflnjjppgooaa.Q
open Go.RowKit
section
variable {P : Program} {n : Nat} {w0 : World} {O : List Ent} {E : Env} {Q : Exit → Act → World → Prop} {o : Oper}
/-- x[k], the index a number that counts -/
theorem yq_idx [PhC] {t e : TypeId} {x y : Operand} {a : Option Addr} {m c k : Nat} {i : Int} {kk : IntKind} {us : List Value} (ho : o.op = .indexAddr t x y) (ht : P.underlying t = some (.slice e)) (hz : (P.info? e).map (·.size) = some 1)
    (hx : E.opd x = some (.slice a m c)) (hy : E.opd y = some (.int kk i)) (hs : Sees w0 O a us) (hi : i = (k : Int)) (hl : us.length = m) (h1 : k < m) : YQ P w0 O E o (.pointer (some (adr a k))) := by
  subst hi
  have := yq_indexAddr (k := kk) ho ht hz hx hy hs (by intro h; subst h; simp at hl; omega) (Int.natCast_nonneg k) (by omega)
  simpa using this
theorem yq_loadF [PhC] {t : TypeId} {x : Operand} {a : Option Addr} {k : Nat} {xs : List Nat} (ho : o.op = .load t x) (ht : flatB P t = true) (hx : E.opd x = some (.pointer (some (adr a k)))) (hs : Sees w0 O a (fl xs)) (hk : k < xs.length) : YQ P w0 O E o (.float .f32 (xs.getD k 0)) :=
  yq_load ho ht hx hs (fl_get hk)
theorem V.condT [PhC] {c : Operand} {x y : Code} (hc : E.opd c = some (.bool true)) (h : V P n w0 O E x Q) : V P n w0 O E (.cond c x y) Q := V.cond hc (fun _ => h) (fun h => by cases h)
theorem V.condF [PhC] {c : Operand} {x y : Code} (hc : E.opd c = some (.bool false)) (h : V P n w0 O E y Q) : V P n w0 O E (.cond c x y) Q := V.cond hc (fun h => by cases h) (fun _ => h)
theorem VE.fall [PhC] {fn : Func} {R : Value → World → Prop} (h : VE n w0 O E (Ends P fn R) .ret) : VE n w0 O E (Ends P fn R) .normal := h
theorem VL.r0 [PhC] {ops : Array Oper} {rest : List Oper} {u : Value} (hg : Wants ops E o) (hd : o.dst = none) (hy : YR P E o u) (h : VL P n w0 O E ops Q rest) (hv : vcall o.op = false := by rfl) : VL P n w0 O E ops Q (o :: rest) := by
  refine VL.at hv fun a w ha hw => ?_
  refine wqList_step fun K hK => ?_
  rw [if_pos (hg.wanted ha)]
  unfold OperWq
  refine (hy a.eval w (ha.ev _)).upon fun v w' hv => hK _ _ ?_
  exact h _ _ (by rw [hd]; exact ha) (hw.ext hv.2)
theorem yr_nileq [PhC] {t e ty : TypeId} {x y : Operand} {a : Option Addr} {m c : Nat} (ho : o.op = .binOp .eql t x y ty) (ht : P.underlying t = some (.slice e)) (hx : E.opd x = some (.slice a m c)) (hy : E.opd y = some (.slice none 0 0)) : YR P E o (.bool a.isNone) := yr_of fun ρ w hE => by
  have h1 := cn_slice (hE.get (x := x) (by simp [ho, Op.operands]) hx)
  have h2 := cn_slice (hE.get (x := y) (by simp [ho, Op.operands]) hy)
  exact ⟨.bool a.isNone, by simp [execOp, ho, h1, h2, eqGuard, binOp, run_neq_nil ht], rfl⟩
/-- A product of two numbers that are not negative. -/
theorem yr_mulN [PhC] {t ty : TypeId} {x y : Operand} {p q : Int} (a b : Nat) (ho : o.op = .binOp .mul t x y ty) (hx : E.opd x = some (.int .i64 p)) (hy : E.opd y = some (.int .i64 q)) (hp : p = (a : Int)) (hq : q = (b : Int)) (hb : a * b ≤ 9223372036854775807) : YR P E o (.int .i64 ((a * b : Nat) : Int)) := by
  subst hp; subst hq
  have := yr_int (P := P) (r := (a : Int) * (b : Int)) ho hx hy (.inr (.inr ⟨rfl, IntWalk.i64_in _ (by rw [← Int.natCast_mul]; omega)⟩))
  rwa [← Int.natCast_mul] at this
theorem yq_ext [PhC] {args : Array Operand} {ts : Array TypeId} {f : FuncId} {us : List Value} {u : Value} {e : Array Value → Sem Value} (ho : o.op = .call ⟨.value (.func f), args, ts⟩) (hk : ExtF P f e) (hx : Opds E args.toList us)
    (h : ∀ (vs : Array Value) (w : World), vs.toList.map cn = us → ∃ v w', (e vs).run P w = .ok v w' ∧ cn v = u ∧ Below w.heap.size w w') : YQ P w0 O E o u := by
  intro ρ w hE _
  obtain ⟨fn, h1, h2, h3, h4, h5⟩ := hk
  have h2' : ¬ fn.name = "runtime.NumGoroutine" := by simpa using h2
  obtain ⟨v, w', g1, g2, g3⟩ := h (args.map ρ ++ #[]) w (args_map' ho hx hE)
  have hc : cn (ρ (.func f)) = .func (.func f) #[] #[] := hE.get (x := .func f) (by simp [ho, Op.operands, Call.operands]) rfl
  have hc' := cn_func hc
  have hr : (execOp ρ o).run P w = .ok (.value v) w' := by
    simp only [Array.append_empty] at g1
    simp [execOp, ho, resolve, hc', Deferred.ofValue, invoke, callFunc, program, Sem.run, h1, h2', h3, h4, h5, g1]
  rw [hr]
  exact ⟨g2, g3⟩
theorem V.loopc [PhC] {G : Type} {body : Code} (Ec : Env) (I : G → Prop) (Og : G → List Ent) (Ev' : G → Env) (μ : G → Nat) (g0 : G)
    (hc : Cov E Ec) (hE : Cov E (Ev' g0)) (hO : ∀ w, Hp w0 O w → Hp w0 (Og g0) w) (h0 : I g0)
    (round : ∀ g, I g → V P n w0 (Og g) (Ev' g ++ Ec) body (Exit.then (RoundQ n w0 Ec I Og Ev' μ g) Q)) :
    V P n w0 O E (.loop body) Q := V.loop I Og Ev' Ec μ g0 (hE.append hc).get hO h0 round
/-- .. what is owned stays as it is -/
theorem V.loops [PhC] {G : Type} {body : Code} (Ec : Env) (I : G → Prop) (Ev' : G → Env) (μ : G → Nat) (g0 : G)
    (hc : Cov E Ec) (hE : Cov E (Ev' g0)) (h0 : I g0)
    (round : ∀ g, I g → V P n w0 O (Ev' g ++ Ec) body (Exit.then (RoundQ n w0 Ec I (fun _ => O) Ev' μ g) Q)) :
    V P n w0 O E (.loop body) Q := V.loopc Ec I (fun _ => O) Ev' μ g0 hc hE (fun _ h => h) h0 round
end
end Go.Proofs.Ytgeflnjjppgooaa.Q

namespace Go.Proofs.Ytgeflnjjppgooaa.Q
open Go.RowKit
section
variable {P : Program} {n : Nat} {w0 : World} {O R : List Ent} {E : Env} {Q : Exit → Act → World → Prop} {ops : Array Oper} {o : Oper} {rest : List Oper} {d i : Nat} {u : Value} {π : List (Nat × Kd)} {K : Env → List Ent → Prop}
theorem vr [PhC] (hy : YR P E o u) (h : VL P n w0 O ((d, u) :: E) ops Q rest) (hg : Wants ops E o := by exact .inl rfl) (hd : o.dst = some d := by rfl) (hdn : d < n := by decide) (hv : vcall o.op = false := by rfl) : VL P n w0 O E ops Q (o :: rest) := VL.r hg hd hdn hy h hv
theorem vq [PhC] (hy : YQ P w0 O E o u) (h : VL P n w0 O ((d, u) :: E) ops Q rest) (hg : Wants ops E o := by exact .inl rfl) (hd : o.dst = some d := by rfl) (hdn : d < n := by decide) (hv : vcall o.op = false := by rfl) : VL P n w0 O E ops Q (o :: rest) := VL.q hg hd hdn hy h hv
theorem vn [PhC] {j t : Nat} {b b' : Bool} (h : VL P n w0 O ((d, undef) :: E) ops Q rest) (hg : o.guard = some (j, b) := by rfl) (hj : (ops[j]?).bind (·.dst) = some t := by rfl) (hb : E.get t = some (.bool b') := by rfl) (hne : (b' == b) = false := by rfl) (hd : o.dst = some d := by rfl) (hdn : d < n := by decide) (hv : vcall o.op = false := by rfl) : VL P n w0 O E ops Q (o :: rest) := VL.no hg hj hb hne hd hdn h hv
theorem sr [PhC] (ho : ops[i]? = some o) (hy : YR P E o u) (h : SW P n w0 ops K π ((d, u) :: E) O) (hg : Wants ops E o := by exact .inl rfl) (hd : o.dst = some d := by rfl) (hdn : d < n := by decide) : SW P n w0 ops K ((i, 0) :: π) E O := SW.r ho hg hd hdn hy h
theorem sq [PhC] (ho : ops[i]? = some o) (hy : YQ P w0 O E o u) (h : SW P n w0 ops K π ((d, u) :: E) O) (hg : Wants ops E o := by exact .inl rfl) (hd : o.dst = some d := by rfl) (hdn : d < n := by decide) : SW P n w0 ops K ((i, 0) :: π) E O := SW.q ho hg hd hdn hy h
end
end Go.Proofs.Ytgeflnjjppgooaa.Q

namespace Go.Proofs.Ytgeflnjjppgooaa.Q
open Go.RowKit
set_option linter.unusedVariables false
set_option linter.unusedSimpArgs false
set_option maxRecDepth 20000
set_option maxHeartbeats 800000
attribute [local irreducible] wqList Wq
theorem known69_Base : Known Try.prog 69 := Known.mk' Try.func69 (by kernel_rfl)
theorem c_IsFinite [PhC] {w : World} (x : Nat) : Pure Try.prog 42 [.float .f32 x] w (.bool (fin x)) := by
  refine Pure.enter Try.func42 rfl Try.ntmps42 (Nat.le_of_ble_eq_true rfl) ?_
  refine V.seq (V.region ?_)
  refine vr (yr_assign (u := .bool false) rfl rfl) ?_
  refine VL.nil (VE.then_wp (V.seq (V.region ?_)))
  refine vr (yr_move rfl rfl) ?_
  refine vr (yr_move rfl rfl) ?_
  refine vr (yr_float rfl (.inr (.inl rfl)) rfl rfl) ?_
  refine vr (yr_fcmp (b := 0) rfl (.inl rfl) rfl rfl) ?_
  refine vr (yr_assign rfl rfl) ?_
  refine VL.nil (VE.then_wp (V.ret ?_))
  refine ret1 rfl rfl (fun w1 hw => ?_)
  exact ⟨rfl, hw.below⟩
theorem c_l01Finite [PhC] {w : World} (x : Nat) : Pure Try.prog 69 [.float .f32 x] w (.bool (fin x)) := by
  refine Pure.enter Try.func69 rfl Try.ntmps69 (Nat.le_of_ble_eq_true rfl) ?_
  refine V.seq (V.region ?_)
  refine vr (yr_assign (u := .bool false) rfl rfl) ?_
  refine VL.nil (VE.then_wp (V.seq (V.region ?_)))
  refine vr (yr_move rfl rfl) ?_
  refine vr (yr_move rfl rfl) ?_
  refine vr (yr_float rfl (.inr (.inl rfl)) rfl rfl) ?_
  refine vr (yr_fcmp (b := 0) rfl (.inl rfl) rfl rfl) ?_
  refine vr (yr_assign rfl rfl) ?_
  refine VL.nil (VE.then_wp (V.ret ?_))
  refine ret1 rfl rfl (fun w1 hw => ?_)
  exact ⟨rfl, hw.below⟩
theorem c_l03Least [PhC] {w : World} (x : Nat) : Pure Try.prog 34 [.float .f32 x] w (.bool (least x)) := by
  refine Pure.enter Try.func34 rfl Try.ntmps34 (Nat.le_of_ble_eq_true rfl) ?_
  refine V.seq (V.region ?_)
  refine vr (yr_assign (u := .bool false) rfl rfl) ?_
  refine VL.nil (VE.then_wp (V.seq (V.region ?_)))
  refine vr (yr_move rfl rfl) ?_
  refine vq (yq_callf rfl known69_Base (.cons rfl .nil) (fun w hw => c_l01Finite _)) ?_
  refine vr (yr_move rfl rfl) ?_
  refine VX.split 5 _ rfl (fun h1 => ?_) (fun h1 => ?_)
  · skip
    refine VL.r (.inr ⟨_, _, _, rfl, rfl, rfl⟩) rfl (by decide) (yr_move rfl rfl) ?_
    refine VL.r (.inr ⟨_, _, _, rfl, rfl, rfl⟩) rfl (by decide) (yr_fcmp (b := 0) rfl (.inr (.inr (.inr (.inr (.inr rfl))))) rfl rfl) ?_
    refine vr (yr_pick_t rfl rfl rfl) ?_
    refine vr (yr_assign rfl rfl) ?_
    refine VL.nil (VE.then_wp (V.ret ?_))
    refine ret1 rfl rfl (fun w1 hw => ?_)
    exact ⟨by simp only [least, *, Bool.true_and], hw.below⟩
  refine vn ?_
  refine vn ?_
  refine vr (yr_pick_f (u := .bool false) rfl rfl rfl) ?_
  refine vr (yr_assign rfl rfl) ?_
  refine VL.nil (VE.then_wp (V.ret ?_))
  refine ret1 rfl rfl (fun w1 hw => ?_)
  exact ⟨by simp only [least, *, Bool.false_and], hw.below⟩
end Go.Proofs.Ytgeflnjjppgooaa.Q

namespace Go.Proofs.Ytgeflnjjppgooaa.Q
open Go.RowKit
set_option linter.unusedVariables false
set_option linter.unusedSimpArgs false
set_option maxRecDepth 20000
set_option maxHeartbeats 800000
attribute [local irreducible] wqList Wq
theorem elt26_Fl : Elt Try.prog 26 [Value.float .f32 0] 4 := Elt.mk' (by kernel_rfl) (by decide)
theorem sz26_Fl : (Try.prog.info? 26).map (·.size) = some 1 := by kernel_rfl
theorem fb26_Fl : flatB Try.prog 26 = true := by kernel_rfl
theorem c_toF [PhC] {w : World} {a : Option Addr} {c : Nat} {xs : List Nat} (hA : Cl w a (fl xs)) (hn : xs.length ≤ 1050000) : New Try.prog 37 [.slice a xs.length c] w (fun p : Option Addr × Nat => .slice p.1 xs.length p.2) (fun p => [⟨p.1, fl xs, p.2 * 1, 26⟩]) := by
  refine New.enter Try.func37 rfl Try.ntmps37 (Nat.le_of_ble_eq_true rfl) ?_
  refine V.seq (V.region ?_)
  refine vr (yr_assign (u := .slice none 0 0) rfl rfl) ?_
  refine VL.nil (VE.then_wp (V.seq (V.region ?_)))
  refine vr (yr_move rfl rfl) ?_
  refine vr (yr_len rfl Try.underlying23 rfl) ?_
  refine VL.new1 (.inl rfl) rfl (by decide) (yn_makeSlicez 1 rfl rfl Try.underlying23 elt26_Fl rfl rfl rfl (by omega) (by omega)) ?_
  intro b7
  refine vr (yr_assign rfl rfl) ?_
  refine VL.nil (VE.then_wp (V.seq (V.seq (V.region ?_))))
  refine vr (yr_assign (u := .int .i64 0) rfl rfl) ?_
  refine VL.nil (VE.then_wp (V.block ?_))
  refine V.loopc (G := Nat × (List Nat)) [(0, _), (3, _)] (fun ⟨k, ys⟩ => k ≤ xs.length ∧ ys.length = xs.length ∧ ys.take k = xs.take k) (fun ⟨k, ys⟩ => [⟨some ⟨b7, 0, none⟩, fl ys, xs.length * 1, 26⟩]) (fun ⟨k, ys⟩ => [(4, .int .i64 (k : Int))]) (fun ⟨k, ys⟩ => xs.length - k) (0, List.replicate xs.length 0) (.cons rfl (.cons rfl .nil)) (.cons rfl .nil) ?_ ?_ ?_
  · exact (fun w hw => by rw [fl_zeros] at hw; exact hw)
  · exact (by simp)
  rintro ⟨k, ys⟩ ⟨hk, hl, ht⟩
  show V _ _ _ [⟨some ⟨b7, 0, none⟩, fl ys, xs.length * 1, 26⟩] ([(4, .int .i64 (k : Int))] ++ [(0, _), (3, _)]) _ _
  refine V.seq (V.seq (V.region ?_))
  refine vr (yr_move rfl rfl) ?_
  refine vr (yr_move rfl rfl) ?_
  refine vr (yr_len rfl Try.underlying23 rfl) ?_
  refine vr (yr_icmp rfl (.inr (.inr (.inl rfl))) rfl rfl) ?_
  refine VL.nil (VE.then_wp ?_)
  refine V.cond rfl (fun h1 => ?_) (fun h1 => ?_)
  · skip
    replace h1 := ic_lss h1
    refine V.skip (VE.then_wp (V.seq (V.block (V.region ?_))))
    refine vr (yr_move rfl rfl) ?_
    refine vr (yr_move rfl rfl) ?_
    refine vr (yr_move rfl rfl) ?_
    refine vr (yr_move rfl rfl) ?_
    refine vq (yq_idx (k := k) rfl Try.underlying23 sz26_Fl rfl rfl zz0 zz3 zz10 (by omega)) ?_
    refine vq (yq_loadF rfl fb26_Fl rfl zz0 (by omega)) ?_
    refine vq (yq_idx (k := k) rfl Try.underlying23 sz26_Fl rfl rfl zz0 zz3 zz10 (by omega)) ?_
    refine VL.s (.inl rfl) rfl (yc_store rfl sz26_Fl rfl rfl zz8 (.inl ⟨rfl, rfl⟩) rfl (by rw [fl_length]; omega) (by decide) (fl_set _ _ _)) ?_
    rintro ⟨⟩
    refine VL.nil (VE.block_normal (VE.then_wp (V.region ?_)))
    refine vr (yr_move rfl rfl) ?_
    refine vr (yr_int rfl rfl rfl (.inl ⟨rfl, wrap_in (by omega)⟩)) ?_
    refine vr (yr_assign rfl rfl) ?_
    refine VL.nil ?_
    refine VE.round (k + 1, ys.set k (xs.getD k 0)) ?_ ?_ ?_ ?_ ?_
    · exact (.cons rfl .nil)
    · exact (.cons rfl (.cons rfl .nil))
    · exact (fun w hw => hw)
    · exact ⟨by omega, by simp [hl], take_set_succ hl ht (by omega)⟩
    · (try dsimp only); omega
  replace h1 := ic_lss' h1
  refine V.exit ?_
  refine VE.then_exit (VE.then_exit (VE.block_here (VE.then_wp (V.seq (V.region ?_)))))
  refine vr (yr_move rfl rfl) ?_
  refine vr (yr_assign rfl rfl) ?_
  refine VL.nil (VE.then_wp (V.ret ?_))
  refine ret1 rfl rfl (fun w1 hw => ?_)
  have hke := take_all hl ht (by omega)
  subst hke
  exact ⟨(some ⟨b7, 0, none⟩, _), rfl, hw.out1⟩
end Go.Proofs.Ytgeflnjjppgooaa.Q
