/- Own texts of this claim, merged: Za, Ya, Yb, Yc, Yd, Wgd, Wl, Zb, Zc, Zd, Ze, Zf, Wgm. -/
import Derived.Conc.DeferLaws
import Derived.Conc.Beside
import Derived.Conc.CrowdRun
import Derived.Conc.WgGenN3
import Derived.Conc.CrowdMono
import Derived.Test.YtgeflnjjppgooaaChecked
import Derived.Conc.QuitsD
import Derived.Test.YtgeflnjjppgooaaKFnExactNormalOf8
namespace Go.Proofs.Ytgeflnjjppgooaa.Q
open Go Go.Conc Go.RowKit
section
variable [PhC] {P : Program} {m : Bool} {S : Goroutine → World → Prop} {ops : Array Oper} {i : Nat} {rest : List Nat} {o : Oper} {b : Frame} {a : Act} {k : List Item} {cs : List Frame} {v : World}
theorem go_val (ho : ops[i]? = some o) (hw : Region.wanted o (yielded ops a.tmps) = true) (hk : b.kind ≠ .early) (hfr : FR P (execOp a.eval o))
    (h : ∀ v1, Ext v v1 → ∃ x v2, (execOp a.eval o).run P v1 = .ok (.value x) v2 ∧ Go3 P m S (G (b.at (a.put o.dst x) (.inRegion ops rest :: k)) cs) v2) :
    Go3 P m S (G (b.at a (.inRegion ops (i :: rest) :: k)) cs) v :=
  Go3.mk rfl fun v1 hx => by
    obtain ⟨x, v2, hr, hg⟩ := h v1 hx
    exact ⟨_, v2, stepTo_oper hfr hr fun w w' h => stepG_value ho hw hk h, hg⟩
/-- An operation that turns nothing. -/
theorem go_pure (x : Value) (ho : ops[i]? = some o) (hw : Region.wanted o (yielded ops a.tmps) = true) (hk : b.kind ≠ .early) (hfr : FR P (execOp a.eval o))
    (hr : ∀ v1, Ext v v1 → (execOp a.eval o).run P v1 = .ok (.value x) v1) (h : Go3 P m S (G (b.at (a.put o.dst x) (.inRegion ops rest :: k)) cs) v) :
    Go3 P m S (G (b.at a (.inRegion ops (i :: rest) :: k)) cs) v :=
  go_val ho hw hk hfr fun v1 hx => ⟨x, v1, hr v1 hx, h.ext hx⟩
/-- A call: the callee's frame comes on top. -/
theorem go_in {f : FuncId} {fn : Func} {c : Code} (args : Array Value) (hf : P.funcs[f]? = some fn) (hb : fn.body = some c) (ho : ops[i]? = some o) (hw : Region.wanted o (yielded ops a.tmps) = true) (hk : b.kind ≠ .early) (hfr : FR P (execOp a.eval o))
    (hr : ∀ v1, Ext v v1 → (execOp a.eval o).run P v1 = .ok (.enter f args) v1)
    (h : Go3 P m S (G ((base f).at { tmps := args ++ Array.replicate (fn.ntmps - args.size) undef, defers := [] } [.code c]) (b.at a (.inRegion ops (i :: rest) :: k) :: cs)) v) :
    Go3 P m S (G (b.at a (.inRegion ops (i :: rest) :: k)) cs) v :=
  Go3.mk rfl fun v1 hx => by
    refine ⟨_, v1, stepTo_oper hfr (hr v1 hx) fun w w' h => stepG_enter ho hw hk h, ?_⟩
    rw [enter_at _ hf hb]
    exact h.ext hx
omit [PhC] in
theorem run_results0 {fn : Func} (h : fn.results = #[]) (tmps : Array Value) (w : World) : (results fn tmps).run P w = .ok (.tuple #[]) w := by simp [results, h]
omit [PhC] in
theorem ev_results0 {fn : Func} (h : fn.results = #[]) (tmps : Array Value) (w : World) : (results fn tmps).events P w #[] = #[] := by simp [results, h]
theorem go_leave0 {fn : Func} {todo : List Item} {b₀ : Frame} {a₀ : Act} (hn : b.kind = .normal) (hd : a.defers = []) (hf : P.funcs[b.fn]? = some fn) (hr : fn.results = #[])
    (h : Go3 P m S (G (b₀.at (a₀.put ((ops[i]?).bind (·.dst)) (.tuple #[])) (.inRegion ops rest :: k)) cs) v) :
    Go3 P m S (G { b.at a todo with mode := .returning } (b₀.at a₀ (.inRegion ops (i :: rest) :: k) :: cs)) v :=
  .ctl rfl (fun w => by rw [leave_any hn hd hf (run_results0 hr _ w), ev_results0 hr, seen_none, Frame.finish_at]) h
end
end Go.Proofs.Ytgeflnjjppgooaa.Q


namespace Go.Proofs.Ytgeflnjjppgooaa.Y
open Go Go.Conc Go.RowKit Go.Proofs.Ytgeflnjjppgooaa Go.Proofs.Ytgeflnjjppgooaa.Q

/-- A rank: below a node stands one for each world. -/
inductive Rk where
  | leaf
  | node (f : World → Rk)
/-- One step down. -/
inductive Dn : Rk → Rk → Prop
  | mk (f : World → Rk) (w : World) : Dn (f w) (.node f)
theorem Dn.wf : WellFounded Dn := ⟨fun r => by
  induction r with
  | leaf => exact ⟨_, fun y h => nomatch h⟩
  | node f ih => exact ⟨_, fun y h => by cases h with | mk _ w => exact ih w⟩⟩
def nat : Nat → Rk
  | 0 => .leaf
  | n + 1 => .node fun _ => nat n
theorem dn_nat (n : Nat) : Dn (nat n) (nat (n + 1)) := .mk (fun _ => nat n) ⟨#[], fun _ _ => 0, 0, default, #[]⟩

/-- One of the first N goes down, all others stand. -/
def Vec (N : Nat) (F' F : Nat → Rk) : Prop := ∃ x, x < N ∧ Dn (F' x) (F x) ∧ ∀ y, y ≠ x → F' y = F y
theorem Vec.wf : ∀ N, WellFounded (Vec N)
  | 0 => ⟨fun F => ⟨_, fun G ⟨x, hx, _⟩ => absurd hx (Nat.not_lt_zero x)⟩⟩
  | N + 1 => by
    have ih := Vec.wf N
    have key : ∀ r : Rk, ∀ F : Nat → Rk, F N = r → Acc (Vec (N + 1)) F := by
      intro r
      induction r using Dn.wf.induction with
      | _ r ihr =>
        intro F
        induction F using ih.induction with
        | _ F ihF =>
          intro hF
          refine ⟨_, fun G ⟨x, hx, hd, hy⟩ => ?_⟩
          rcases Nat.lt_or_ge x N with hlt | hge
          · exact ihF G ⟨x, hlt, hd, hy⟩ ((hy N (by omega)).trans hF)
          · obtain rfl : x = N := by omega
            exact ihr (G x) (hF ▸ hd) G rfl
    exact ⟨fun F => key _ F rfl⟩
/-- First the number, then the others' ranks, then the starter's. -/
abbrev Mu := Nat × (Nat → Rk) × Rk
def Lt (N : Nat) : Mu → Mu → Prop := Prod.Lex (· < ·) (Prod.Lex (Vec N) Dn)
theorem Lt.wf (N : Nat) : WellFounded (Lt N) := (Prod.lex ⟨_, Nat.lt_wfRel.wf⟩ ⟨_, (Prod.lex ⟨_, Vec.wf N⟩ ⟨_, Dn.wf⟩).wf⟩).wf
theorem Lt.num {N a b : Nat} {F G : Nat → Rk} {r s : Rk} (h : a < b) : Lt N (a, F, r) (b, G, s) := Prod.Lex.left _ _ h
theorem Lt.vec {N a : Nat} {F G : Nat → Rk} {r s : Rk} (h : Vec N F G) : Lt N (a, F, r) (a, G, s) := Prod.Lex.right _ (Prod.Lex.left _ _ h)
theorem Lt.own {N a : Nat} {F : Nat → Rk} {r s : Rk} (h : Dn r s) : Lt N (a, F, r) (a, F, s) := Prod.Lex.right _ (Prod.Lex.right _ h)

/-- A stretch of a run: a measure that falls till Q holds. -/
theorem reach_of_inv {P : Program} {α : Type} {r : α → α → Prop} (wf : WellFounded r) (Inv : α → Machine → Trace → Prop) (Q : Machine → Trace → Prop)
    (h : ∀ μ m t, Inv μ m t → ∃ m' ops, stepT P m = (.next m', ops) ∧ (Q m' (t ++ ops) ∨ ∃ μ', r μ' μ ∧ Inv μ' m' (t ++ ops))) :
    ∀ μ m t, Inv μ m t → ∃ n m' t', runNT P n m t = (.next m', t') ∧ Q m' t' := by
  intro μ
  induction μ using wf.induction with
  | _ μ ih =>
    intro m t hI
    obtain ⟨m', ops, hs, hq | ⟨μ', hr, hI'⟩⟩ := h μ m t hI
    · exact ⟨1, m', t ++ ops, by rw [runNT_succ_next hs]; rfl, hq⟩
    · obtain ⟨n, m'', t'', h1, h2⟩ := ih μ' hr m' (t ++ ops) hI'
      exact ⟨n + 1, m'', t'', by rw [runNT_succ_next hs]; exact h1, h2⟩

/-! ### the walk of a goroutine in its view, with a rank -/
/-- No stretch of starting and joining. -/
@[reducible] def noPh : PhC := ⟨fun _ _ _ _ _ => False, Bool, id⟩
def GoR (P : Program) (m : Bool) (S : Goroutine → World → Prop) : Rk → Goroutine → World → Prop
  | .leaf, g, v => ∀ v1, Ext v v1 → S g v1
  | .node f, g, v => (∀ v1, Ext v v1 → S g v1) ∨ (g.status = .running ∧ ∀ v1, Ext v v1 → ∃ g' v', StepTo P m g v1 g' v' ∧ GoR P m S (f v1) g' v')
section
variable {P : Program} {m : Bool} {S : Goroutine → World → Prop} {g : Goroutine} {v v1 : World} {r : Rk}
theorem GoR.ext (h : GoR P m S r g v) (hx : Ext v v1) : GoR P m S r g v1 := by
  cases r with
  | leaf => exact fun v2 h2 => h v2 (hx.trans h2)
  | node f => exact h.imp (fun h v2 h2 => h v2 (hx.trans h2)) fun h => ⟨h.1, fun v2 h2 => h.2 v2 (hx.trans h2)⟩
theorem GoR.of (h : @Go3 noPh P m S g v) : ∃ r, GoR P m S r g v := by
  classical
  induction h with
  | stop h => exact ⟨.leaf, h⟩
  | @step g v hs g' v' h hn ih =>
    refine ⟨.node fun v1 => if hx : Ext v v1 then (ih v1 hx).choose else .leaf, .inr ⟨hs, fun v1 hx => ⟨g' v1, v' v1, h v1 hx, ?_⟩⟩⟩
    show GoR P m S (if hx : Ext v v1 then (ih v1 hx).choose else .leaf) (g' v1) (v' v1)
    rw [dif_pos hx]
    exact (ih v1 hx).choose_spec
  | phase K h hn ih => exact (h _ (Ext.refl _)).elim
theorem GoR.cases (h : GoR P m S r g v) : S g v ∨ (g.status = .running ∧ ∃ g' v' r', Dn r' r ∧ StepTo P m g v g' v' ∧ GoR P m S r' g' v') := by
  cases r with
  | leaf => exact .inl (h v (Ext.refl v))
  | node f =>
    rcases h with h | ⟨hs, h⟩
    · exact .inl (h v (Ext.refl v))
    · obtain ⟨g', v', h1, h2⟩ := h v (Ext.refl v)
      exact .inr ⟨hs, g', v', f v, .mk f v, h1, h2⟩
end
end Go.Proofs.Ytgeflnjjppgooaa.Y


namespace Go.Proofs.Ytgeflnjjppgooaa.Y
open Go Go.Conc Go.RowKit Go.Proofs.Ytgeflnjjppgooaa Go.Proofs.Ytgeflnjjppgooaa.Q

def deadAt (b : Nat) : Obj → Obj
  | .cells _ ty _ => .cells #[] ty (0, 0)
  | .view _ _ => .view ⟨b, 0, none⟩ 0
  | o => o
theorem br_dead (b : Nat) (o : Obj) : BR b (some (deadAt b o)) (some o) := by
  cases o <;> first | exact .dead | exact .view | exact .same (fun a t h => by cases h)
/-- The view of one who has done nothing, once the world has come to w'. -/
def up (v w' : World) : World := { v with heap := v.heap ++ (w'.heap.extract v.heap.size w'.heap.size).mapIdx fun i o => deadAt (v.heap.size + i) o, drawn := w'.drawn }
theorem up_get (v w' : World) (b : Nat) : (up v w').heap[b]? = if b < v.heap.size then v.heap[b]? else (w'.heap[b]?).map (deadAt b) := by
  simp only [up, Array.getElem?_append, Array.getElem?_mapIdx, Array.getElem?_extract]
  split
  · rfl
  · rename_i h
    have e : v.heap.size + (b - v.heap.size) = b := by omega
    split
    · rw [e]
    · rename_i h2
      rw [Array.getElem?_eq_none (xs := w'.heap) (by omega)]; rfl
theorem up_size {v w' : World} (h : v.heap.size ≤ w'.heap.size) : (up v w').heap.size = w'.heap.size := by
  simp [up]; omega
theorem up_ext (v w' : World) : Ext v (up v w') := by
  refine ⟨rfl, rfl, rfl, by simp [up], fun b hb => ?_⟩
  rw [up_get, if_pos hb]
theorem up_old {v w' : World} {b : Nat} (h : b < v.heap.size) : (up v w').heap[b]? = v.heap[b]? := by rw [up_get, if_pos h]

section
variable {v v' w w' u : World} {b : Nat}
theorem rdb_lt (h : Rdb v b) : b < v.heap.size := let ⟨_, _, _, h, _⟩ := h; (Array.getElem?_eq_some_iff.1 h).1
theorem liv_lt (h : Liv v b) : b < v.heap.size := rdb_lt h.rdb
theorem rdb_of_eq (h : v'.heap[b]? = v.heap[b]?) : Rdb v' b ↔ Rdb v b := by simp only [Rdb, h]
theorem liv_of_eq (h : v'.heap[b]? = v.heap[b]?) : Liv v' b ↔ Liv v b := by simp only [Liv, h]
theorem rdb_up : Rdb (up v w') b ↔ Rdb v b := by
  constructor
  · intro h
    rcases Nat.lt_or_ge b v.heap.size with hlt | hge
    · exact (rdb_of_eq (up_old hlt)).1 h
    · obtain ⟨c, ty, z, h1, h2⟩ := h
      rw [up_get, if_neg (by omega)] at h1
      obtain ⟨o, _, ho⟩ := Option.map_eq_some_iff.1 h1
      cases o <;> simp [deadAt] at ho
      exact absurd ho.1 h2
  · intro h; exact (rdb_of_eq (up_old (rdb_lt h))).2 h
theorem liv_up : Liv (up v w') b ↔ Liv v b := by
  constructor
  · intro h
    have := rdb_up.1 h.rdb
    exact (liv_of_eq (up_old (rdb_lt this))).1 h
  · intro h; exact (liv_of_eq (up_old (liv_lt h))).2 h
theorem view_up (hu : View u w) (hs : w.heap.size ≤ w'.heap.size) (h1 : w'.tape = w.tape) (h2 : w'.os = w.os) (h3 : w'.output = w.output) (hb : ∀ b, b < u.heap.size → BR b u.heap[b]? w'.heap[b]?) : View (up u w') w' := by
  have hr := hu.rest
  have e1 : w.tape = u.tape := by rw [hr]
  have e2 : w.os = u.os := by rw [hr]
  have e3 : w.output = u.output := by rw [hr]
  refine ⟨?_, up_size (by rw [hu.size]; exact hs), fun b => ?_⟩
  · obtain ⟨hp, tp, dr, os, ou⟩ := w'
    simp only at h1 h2 h3
    simp only [up, h1, h2, h3, e1, e2, e3]
  · rw [up_get]
    split
    · exact hb b (by assumption)
    · cases h : w'.heap[b]? with
      | none => exact .same (fun a t h => by cases h)
      | some o => exact br_dead b o
/-- Another's step in its own view. -/
theorem view_other (hc : Chg v v' w w') (hv : View v w) (hu : View u w) (ex : ∀ b, Liv v b → ¬ Rdb u b) : View (up u w') w' := by
  have hr := hc.view.rest
  have hr0 := hv.rest
  have hsz : v.heap.size = u.heap.size := hv.size.trans hu.size.symm
  refine view_up hu ?_ ?_ ?_ ?_ fun b hb => ?_
  · rw [← hc.view.size, ← hv.size]; exact hc.grow
  · rw [hr, hr0]; exact hc.tape
  · rw [hr, hr0]; exact hc.os
  · rw [hr, hr0]; exact hc.output
  · by_cases hl : Liv v b
    · have hn := ex b hl
      obtain ⟨c, ty, z, h1, h2, h3⟩ := hl
      have hbv := hv.blk b
      have hbu := hu.blk b
      obtain ⟨c', z', hk⟩ := hc.kind b c ty z h1
      have hbw := hc.view.blk b
      rw [hk] at hbw
      rw [h1] at hbv
      generalize hwb : w.heap[b]? = x at hbv hbu
      have hx : x = some (.cells c ty z) := by
        cases hbv with
        | same _ => rfl
        | dead => exact absurd rfl h2
        | fro => exact absurd rfl h3
      subst hx
      have hw' : ∃ c2 z2, w'.heap[b]? = some (.cells c2 ty z2) := by
        generalize w'.heap[b]? = y at hbw
        cases hbw with
        | same _ => exact ⟨_, _, rfl⟩
        | dead => exact ⟨_, _, rfl⟩
        | fro => exact ⟨_, _, rfl⟩
      obtain ⟨c2, z2, hw2⟩ := hw'
      rw [hw2]
      generalize hub : u.heap[b]? = y at hbu
      cases hbu with
      | same _ => exact absurd ⟨c, ty, z, hub, h2⟩ hn
      | dead => exact .dead
      | fro => exact absurd ⟨c, ty, _, hub, h2⟩ hn
    · rw [(hc.keep b (by rw [hsz]; exact hb) hl).2]
      exact hu.blk b
/-- One block turns that u cannot read. -/
theorem view_block {c c' : Array Value} {ty : TypeId} {z z' : Nat × Nat} (hu : View u w) (hw : w.heap[b]? = some (.cells c ty z)) (hc : c ≠ #[]) (hw' : w'.heap[b]? = some (.cells c' ty z')) (oth : ∀ k, k ≠ b → w'.heap[k]? = w.heap[k]?)
    (hs : w'.heap.size = w.heap.size) (h1 : w'.tape = w.tape) (h2 : w'.os = w.os) (h3 : w'.output = w.output) (hd : ¬ Rdb u b) : View (up u w') w' := by
  refine view_up hu (by omega) h1 h2 h3 fun k _ => ?_
  by_cases e : k = b
  · subst e
    have hb := hu.blk k
    rw [hw] at hb
    rw [hw']
    generalize hub : u.heap[k]? = y at hb
    cases hb with
    | same _ => exact absurd ⟨c, ty, z, hub, hc⟩ hd
    | dead => exact .dead
    | fro => exact absurd ⟨c, ty, _, hub, hc⟩ hd
  · rw [oth k e]; exact hu.blk k
/-- Nothing turns but the count of draws. -/
theorem view_same (hu : View u w) (hb : w'.heap = w.heap) (h1 : w'.tape = w.tape) (h2 : w'.os = w.os) (h3 : w'.output = w.output) : View (up u w') w' :=
  view_up hu (by rw [hb]; exact Nat.le_refl _) h1 h2 h3 fun b _ => by rw [hb]; exact hu.blk b
end

/-! ### frozen, dead -/
def frzO : Obj → Obj
  | .cells c ty _ => .cells c ty (0, c.size)
  | o => o
def frz (v : World) : World := { v with heap := v.heap.map frzO }
def killO : Obj → Obj
  | .cells _ ty _ => .cells #[] ty (0, 0)
  | o => o
def kill (S : Nat → Bool) (v : World) : World := { v with heap := v.heap.mapIdx fun b o => if S b then killO o else o }
section
variable {v w : World} {S : Nat → Bool} {b : Nat}
theorem frz_get : (frz v).heap[b]? = (v.heap[b]?).map frzO := by simp [frz]
theorem kill_get : (kill S v).heap[b]? = (v.heap[b]?).map fun o => if S b then killO o else o := by simp [kill]
theorem view_frz (h : View v w) : View (frz v) w := by
  refine ⟨by rw [h.rest]; rfl, by simp [frz, h.size], fun b => ?_⟩
  rw [frz_get]
  have hb := h.blk b
  generalize v.heap[b]? = x at hb
  generalize w.heap[b]? = y at hb
  cases hb with
  | same hn =>
    cases x with
    | none => exact .same (fun a t h => by cases h)
    | some o => cases o <;> first | exact .fro | exact absurd rfl (hn _ _) | exact .same (fun a t h => by cases h)
  | view => exact .view
  | dead => exact .dead
  | fro => exact .fro
theorem view_kill (h : View v w) : View (kill S v) w := by
  refine ⟨by rw [h.rest]; rfl, by simp [kill, h.size], fun b => ?_⟩
  rw [kill_get]
  have hb := h.blk b
  generalize v.heap[b]? = x at hb
  generalize w.heap[b]? = y at hb
  cases hS : S b with
  | false =>
    have : x.map (fun o => if false = true then killO o else o) = x := by cases x <;> rfl
    rw [this]; exact hb
  | true =>
    have : x.map (fun o => if true = true then killO o else o) = x.map killO := by cases x <;> rfl
    rw [this]
    cases hb with
    | same hn =>
      cases x with
      | none => exact .same (fun a t h => by cases h)
      | some o => cases o <;> first | exact .dead | exact absurd rfl (hn _ _) | exact .same (fun a t h => by cases h)
    | view => exact .view
    | dead => exact .dead
    | fro => exact .dead
theorem not_liv_frz : ¬ Liv (frz v) b := by
  rintro ⟨c, ty, z, h1, _, h3⟩
  rw [frz_get] at h1
  obtain ⟨o, _, ho⟩ := Option.map_eq_some_iff.1 h1
  cases o <;> simp [frzO] at ho
  obtain ⟨rfl, _, rfl⟩ := ho
  exact h3 rfl
theorem rdb_frz : Rdb (frz v) b ↔ Rdb v b := by
  constructor
  · rintro ⟨c, ty, z, h1, h2⟩
    rw [frz_get] at h1
    obtain ⟨o, ho1, ho⟩ := Option.map_eq_some_iff.1 h1
    cases o <;> simp [frzO] at ho
    obtain ⟨rfl, rfl, _⟩ := ho
    exact ⟨_, _, _, ho1, h2⟩
  · rintro ⟨c, ty, z, h1, h2⟩
    exact ⟨c, ty, _, by rw [frz_get, h1]; rfl, h2⟩
theorem rdb_kill : Rdb (kill S v) b ↔ Rdb v b ∧ S b = false := by
  constructor
  · rintro ⟨c, ty, z, h1, h2⟩
    rw [kill_get] at h1
    obtain ⟨o, ho1, ho⟩ := Option.map_eq_some_iff.1 h1
    cases hS : S b with
    | false => rw [hS] at ho; simp at ho; subst ho; exact ⟨⟨_, _, _, ho1, h2⟩, rfl⟩
    | true =>
      rw [hS] at ho
      simp at ho
      cases o <;> simp [killO] at ho
      exact absurd ho.1 h2
  · rintro ⟨⟨c, ty, z, h1, h2⟩, hS⟩
    exact ⟨c, ty, z, by rw [kill_get, h1, hS]; rfl, h2⟩
theorem liv_kill : Liv (kill S v) b ↔ Liv v b ∧ S b = false := by
  constructor
  · intro h
    have := rdb_kill.1 h.rdb
    refine ⟨?_, this.2⟩
    obtain ⟨c, ty, z, h1, h2⟩ := h
    rw [kill_get, this.2] at h1
    simp at h1
    exact ⟨c, ty, z, h1, h2⟩
  · rintro ⟨⟨c, ty, z, h1, h2⟩, hS⟩
    exact ⟨c, ty, z, by rw [kill_get, h1, hS]; rfl, h2⟩
end
end Go.Proofs.Ytgeflnjjppgooaa.Y


namespace Go.Proofs.Ytgeflnjjppgooaa.Y
open Go Go.Conc Go.RowKit
open Go.ConcN (fork_knows RelBy)

/-- Sh: blocks touched by the library's own atomic steps alone; Rd x b: x may read block b; Wr x a: x alone may touch cell a; Act x: x may touch Sh; L: above it are the workers of this phase; rel: when each has said its release; all that is named lies below B; G goroutines. -/
structure TI (Sh : Nat → Prop) (Rd : Nat → Nat → Prop) (Wr : Nat → Addr → Prop) (Act : Nat → Prop) (rel : Nat → Option Nat) (L B G : Nat) (t : Trace) : Prop where
  clean : ∀ said, ¬ Race said t
  rd : ∀ x b, Rd x b → ∀ i a ad, touchAt t i = some a → a.loc = .cell ad → ad.block = b → a.write = true → Knows t x i
  wr : ∀ x ad, Wr x ad → ∀ i a, touchAt t i = some a → a.loc = .cell ad → Knows t x i
  sh : ∀ i a ad, touchAt t i = some a → a.loc = .cell ad → Sh ad.block → (a.kind ≠ .plain ∧ (a.kind = .said → t.g? i = some 0)) ∨ ∀ x, Act x → Knows t x i
  ob : ∀ i a r, touchAt t i = some a → a.loc = .obj r → a.write = false
  kn : ∀ i a, touchAt t i = some a → a.loc.isMemory = true → Knows t 0 i ∨ ((∃ ad, a.loc = .cell ad ∧ Sh ad.block) ∧ a.kind = .atomic ∧ ¬ t.heard i) ∨ ∃ x, L < x ∧ t.g? i = some x ∧ ∀ r, rel x = some r → i < r
  seen : ∀ op ∈ t, op.act.low B
  gs : ∀ op ∈ t, op.g < G

/-- What x may do. -/
def OkOp (Sh : Nat → Prop) (Rd : Nat → Nat → Prop) (Wr : Nat → Addr → Prop) (B x : Nat) (op : MemOp) : Prop :=
  ∀ b, op.act.touch? = some b → (∃ r, b.loc = .obj r ∧ b.write = false) ∨
    ∃ ad, b.loc = .cell ad ∧ ((Sh ad.block ∧ b.kind ≠ .plain ∧ (b.kind = .said → x = 0)) ∨ B ≤ ad.block ∨ Wr x ad ∨ (Rd x ad.block ∧ b.write = false))

theorem touch_low {op : MemAct} {a : Touch} {ad : Addr} {B : Nat} (h : op.touch? = some a) (hl : a.loc = .cell ad) (hb : op.low B) : ad.block < B := by
  cases op <;> simp only [MemAct.touch?] at h <;> try cases h
  · rename_i e
    simp only [MemAct.low] at hb
    simp only at hl
    rw [hl] at hb
    exact hb
  · rename_i m
    cases m <;> simp only [Option.some.injEq] at h <;> try cases h
    · cases hl; exact hb
    · cases hl; exact hb

/-- What stands of every two rights. -/
structure Fit (Sh : Nat → Prop) (Rd : Nat → Nat → Prop) (Wr : Nat → Addr → Prop) (B : Nat) : Prop where
  ex1 : ∀ x ad, Wr x ad → ∀ y, y ≠ x → ¬ Rd y ad.block ∧ ¬ Wr y ad
  lo : ∀ y b, Rd y b → b < B
  lo2 : ∀ y (ad : Addr), Wr y ad → ad.block < B
  shb : ∀ b, Sh b → b < B
  shr : ∀ b, Sh b → ∀ y, ¬ Rd y b
  shw : ∀ (ad : Addr), Sh ad.block → ∀ y, ¬ Wr y ad

section
variable {Sh : Nat → Prop} {Rd Rd' : Nat → Nat → Prop} {Wr Wr' : Nat → Addr → Prop} {Act Act' : Nat → Prop} {rel : Nat → Option Nat} {L B B' G : Nat} {t u : Trace}

theorem TI.step (h : TI Sh Rd Wr Act rel L B G t) (F : Fit Sh Rd Wr B) {x : Nat} (hx : Act x) (hxG : x < G) (hB : B ≤ B') (hu : ∀ op ∈ u, op.g = x) (ok : ∀ op ∈ u, OkOp Sh Rd Wr B x op) (lw : ∀ op ∈ u, op.act.low B')
    (hk : ∀ i op b, t.size ≤ i → (t ++ u)[i]? = some op → op.act.touch? = some b → x = 0 ∨ (L < x ∧ rel x = none) ∨ ((∃ ad, b.loc = .cell ad ∧ Sh ad.block) ∧ b.kind = .atomic ∧ ¬ (t ++ u).heard i))
    (rd' : ∀ y b, Rd' y b → Rd y b ∨ (y = x ∧ B ≤ b)) (wr' : ∀ y ad, Wr' y ad → Wr y ad ∨ (y = x ∧ B ≤ ad.block)) : TI Sh Rd' Wr' Act rel L B' G (t ++ u) := by
  have fresh : ∀ i a ad, touchAt t i = some a → a.loc = .cell ad → ad.block < B := fun i a ad ha hl => by
    obtain ⟨z, hz, hza⟩ := touch_of ha
    exact touch_low hza hl (h.seen z (Array.mem_of_getElem? hz))
  refine ⟨fun said => noRace_append (h.clean said) hu fun i a ha op hop b hb hc => ?_, fun y b hy i a ad ha hl hab hw => ?_, fun y ad hy i a ha hl => ?_, fun i a ad ha hl hs => ?_, fun i a r ha hl => ?_, fun i a ha hm => ?_, ?_, ?_⟩
  · obtain ⟨hloc, _, hww, hkk⟩ := hc
    rcases ok op hop b hb with ⟨r, hr, hw⟩ | ⟨ad, had, hcase⟩
    · have := h.ob i a r ha (hloc.trans hr)
      rw [this, hw] at hww; simp at hww
    · have hla := hloc.trans had
      rcases hcase with ⟨hs, hnp, hsd⟩ | hf | hwr | ⟨hr, hw⟩
      · rcases h.sh i a ad ha hla hs with ⟨h1, h2⟩ | h1
        · rcases hkk with e | e | ⟨_, e1, e2⟩
          · exact absurd e h1
          · exact absurd e hnp
          · obtain ⟨z, hz, _⟩ := touch_of ha
            have h3 := h2 e1
            have : z.g = 0 := by simpa [Trace.g?, hz] using h3
            have h4 := knows_own hz
            rw [this] at h4
            rw [hsd e2]; exact h4
        · exact h1 x hx
      · exact absurd (fresh i a ad ha hla) (by omega)
      · exact h.wr x ad hwr i a ha hla
      · exact h.rd x _ hr i a ad ha hla rfl (by rw [hw] at hww; simpa using hww)
  · obtain ⟨z, hz, hza⟩ := touch_of ha
    rcases getElem?_append_cases hz with ⟨hi, hz'⟩ | ⟨hi, hzu⟩
    · have ha' : touchAt t i = some a := by rw [touchAt_of hz']; exact hza
      rcases rd' y b hy with hr | ⟨_, hf⟩
      · exact (h.rd y b hr i a ad ha' hl hab hw).app u
      · exact absurd (fresh i a ad ha' hl) (by omega)
    · by_cases e : y = x
      · have := knows_own hz
        rw [hu z hzu] at this
        rw [e]; exact this
      · exfalso
        have hr := (rd' y b hy).resolve_right (fun h => e h.1)
        rcases ok z hzu a hza with ⟨r, h1, h2⟩ | ⟨ad', had, hcase⟩
        · rw [hl] at h1; cases h1
        · rw [hl] at had; cases had
          subst hab
          rcases hcase with ⟨hs, _⟩ | hf | hwr | ⟨_, hnw⟩
          · exact F.shr _ hs y hr
          · have := F.lo y _ hr; omega
          · exact (F.ex1 x ad hwr y e).1 hr
          · rw [hw] at hnw; cases hnw
  · obtain ⟨z, hz, hza⟩ := touch_of ha
    rcases getElem?_append_cases hz with ⟨hi, hz'⟩ | ⟨hi, hzu⟩
    · have ha' : touchAt t i = some a := by rw [touchAt_of hz']; exact hza
      rcases wr' y ad hy with hr | ⟨_, hf⟩
      · exact (h.wr y ad hr i a ha' hl).app u
      · exact absurd (fresh i a ad ha' hl) (by omega)
    · by_cases e : y = x
      · have := knows_own hz
        rw [hu z hzu] at this
        rw [e]; exact this
      · exfalso
        have hr := (wr' y ad hy).resolve_right (fun h => e h.1)
        rcases ok z hzu a hza with ⟨r, h1, h2⟩ | ⟨ad', had, hcase⟩
        · rw [hl] at h1; cases h1
        · rw [hl] at had; cases had
          rcases hcase with ⟨hs, _⟩ | hf | hwr | ⟨hrd, _⟩
          · exact F.shw _ hs y hr
          · have := F.lo2 y _ hr; omega
          · exact (F.ex1 x ad hwr y e).2 hr
          · exact (F.ex1 y ad hr x (Ne.symm e)).1 hrd
  · obtain ⟨z, hz, hza⟩ := touch_of ha
    rcases getElem?_append_cases hz with ⟨hi, hz'⟩ | ⟨hi, hzu⟩
    · have ha' : touchAt t i = some a := by rw [touchAt_of hz']; exact hza
      rcases h.sh i a ad ha' hl hs with ⟨h1, h2⟩ | h1
      · exact .inl ⟨h1, fun e => by rw [g?_old hi]; exact h2 e⟩
      · exact .inr fun y hy => (h1 y hy).app u
    · rcases ok z hzu a hza with ⟨r, h1, h2⟩ | ⟨ad', had, hcase⟩
      · rw [hl] at h1; cases h1
      · rw [hl] at had; cases had
        rcases hcase with ⟨_, h1, h2⟩ | hf | hwr | ⟨hrd, _⟩
        · exact .inl ⟨h1, fun e => by simp [Trace.g?, hz, hu z hzu, h2 e]⟩
        · have := F.shb _ hs; omega
        · exact absurd hwr (F.shw _ hs x)
        · exact absurd hrd (F.shr _ hs x)
  · obtain ⟨z, hz, hza⟩ := touch_of ha
    rcases getElem?_append_cases hz with ⟨hi, hz'⟩ | ⟨hi, hzu⟩
    · exact h.ob i a r (by rw [touchAt_of hz']; exact hza) hl
    · rcases ok z hzu a hza with ⟨r, h1, h2⟩ | ⟨ad', had, hcase⟩
      · exact h2
      · rw [hl] at had; cases had
  · obtain ⟨z, hz, hza⟩ := touch_of ha
    rcases getElem?_append_cases hz with ⟨hi, hz'⟩ | ⟨hi, hzu⟩
    · rcases h.kn i a (by rw [touchAt_of hz']; exact hza) hm with h1 | ⟨h1, h2, h3⟩ | ⟨y, h1, h2, h3⟩
      · exact .inl (h1.app u)
      · exact .inr (.inl ⟨h1, h2, by rw [heard_old hi]; exact h3⟩)
      · exact .inr (.inr ⟨y, h1, by rw [g?_old hi]; exact h2, h3⟩)
    · rcases hk i z a hi hz hza with rfl | ⟨h1, h2⟩ | h1
      · have := knows_own hz
        rw [hu z hzu] at this
        exact .inl this
      · exact .inr (.inr ⟨x, h1, by simp [Trace.g?, hz, hu z hzu], fun r hr => by rw [h2] at hr; cases hr⟩)
      · exact .inr (.inl h1)
  · exact seen_app (fun op hop => MemAct.low_mono hB (h.seen op hop)) lw
  · intro op hop
    rcases Array.mem_append.1 hop with h1 | h1
    · exact h.gs op h1
    · rw [hu op h1]; exact hxG

/-- Rights may be dropped. -/
theorem TI.weak (h : TI Sh Rd Wr Act rel L B G t) (hr : ∀ y b, Rd' y b → Rd y b) (hw : ∀ y ad, Wr' y ad → Wr y ad) (ha : ∀ y, Act' y → Act y) : TI Sh Rd' Wr' Act' rel L B G t :=
  ⟨h.clean, fun x b hx => h.rd x b (hr x b hx), fun x ad hx => h.wr x ad (hw x ad hx), fun i a ad h1 h2 h3 => (h.sh i a ad h1 h2 h3).imp id fun h4 y hy => h4 y (ha y hy), h.ob, h.kn, h.seen, h.gs⟩

/-- A step that touches nothing. -/
theorem TI.mute (h : TI Sh Rd Wr Act rel L B G t) (hB : B ≤ B') (ng : ∀ op ∈ u, op.g < G) (hn : ∀ op ∈ u, op.act.touch? = none) (lw : ∀ op ∈ u, op.act.low B') {x : Nat} (hu : ∀ op ∈ u, op.g = x) : TI Sh Rd Wr Act rel L B' G (t ++ u) := by
  have old : ∀ {i a}, touchAt (t ++ u) i = some a → i < t.size ∧ touchAt t i = some a := fun {i a} ha => by
    obtain ⟨z, hz, hza⟩ := touch_of ha
    rcases getElem?_append_cases hz with ⟨hi, hz'⟩ | ⟨hi, hzu⟩
    · exact ⟨hi, by rw [touchAt_of hz']; exact hza⟩
    · rw [hn z hzu] at hza; cases hza
  refine ⟨fun said => noRace_append (h.clean said) hu fun i a _ op hop b hb _ => (by rw [hn op hop] at hb; cases hb), fun y b hy i a ad ha hl hab hw => (h.rd y b hy i a ad (old ha).2 hl hab hw).app u, fun y ad hy i a ha hl => (h.wr y ad hy i a (old ha).2 hl).app u,
    fun i a ad ha hl hs => ?_, fun i a r ha hl => h.ob i a r (old ha).2 hl, fun i a ha hm => ?_, seen_app (fun op hop => MemAct.low_mono hB (h.seen op hop)) lw, fun op hop => ?_⟩
  · rcases h.sh i a ad (old ha).2 hl hs with ⟨h1, h2⟩ | h1
    · exact .inl ⟨h1, fun e => by rw [g?_old (old ha).1]; exact h2 e⟩
    · exact .inr fun y hy => (h1 y hy).app u
  · rcases h.kn i a (old ha).2 hm with h1 | ⟨h1, h2, h3⟩ | ⟨y, h1, h2, h3⟩
    · exact .inl (h1.app u)
    · exact .inr (.inl ⟨h1, h2, by rw [heard_old (old ha).1]; exact h3⟩)
    · exact .inr (.inr ⟨y, h1, by rw [g?_old (old ha).1]; exact h2, h3⟩)
  · rcases Array.mem_append.1 hop with h1 | h1
    · exact h.gs op h1
    · exact ng op h1

/-- A go statement. -/
theorem TI.fork (h : TI Sh Rd Wr Act rel L B G t) {x y : MemOp} (hx : x.g = 0 ∧ x.act = .go G) (hy : y.g = G ∧ y.act = .start) (hG : 0 < G) (h0 : Deaf t 0 = 0) (hk : Deaf t G = 0)
    (rd' : ∀ z b, Rd' z b → Rd z b ∨ (z = G ∧ Rd 0 b)) (wr' : ∀ z ad, Wr' z ad → Wr z ad ∨ (z = G ∧ Wr 0 ad)) (act' : ∀ z, Act' z → Act z ∨ (z = G ∧ Act 0)) : TI Sh Rd' Wr' Act' rel L B (G + 1) (t ++ #[x, y]) := by
  have hn : ∀ op ∈ #[x, y], op.act.touch? = none := by
    intro op hop
    simp only [List.mem_toArray, List.mem_cons, List.not_mem_nil, or_false] at hop
    rcases hop with rfl | rfl
    · rw [hx.2]; rfl
    · rw [hy.2]; rfl
  have old : ∀ {i a}, touchAt (t ++ #[x, y]) i = some a → i < t.size ∧ touchAt t i = some a := fun {i a} ha => by
    obtain ⟨z, hz, hza⟩ := touch_of ha
    rcases getElem?_append_cases hz with ⟨hi, hz'⟩ | ⟨hi, hzu⟩
    · exact ⟨hi, by rw [touchAt_of hz']; exact hza⟩
    · rw [hn z hzu] at hza; cases hza
  have fk : ∀ {i}, Knows t 0 i → Knows (t ++ #[x, y]) G i := fun hi => fork_knows hx hy h0 hk hi
  refine ⟨fun said => ?_, fun z b hz i a ad ha hl hab hw => ?_, fun z ad hz i a ha hl => ?_, fun i a ad ha hl hs => ?_, fun i a r ha hl => h.ob i a r (old ha).2 hl, fun i a ha hm => ?_, seen_app h.seen fun op hop => ?_, fun op hop => ?_⟩
  · have e : t ++ #[x, y] = (t ++ #[x]) ++ #[y] := by apply Array.ext'; simp
    rw [e]
    refine noRace_append (g := G) (noRace_append (g := 0) (h.clean said) (fun op hop => by simp at hop; rw [hop]; exact hx.1) (fun i a _ op hop b hb _ => ?_)) (fun op hop => by simp at hop; rw [hop]; exact hy.1) (fun i a _ op hop b hb _ => ?_)
    · rw [hn op (by simp at hop ⊢; exact .inl hop)] at hb; cases hb
    · rw [hn op (by simp at hop ⊢; exact .inr hop)] at hb; cases hb
  · rcases rd' z b hz with hr | ⟨rfl, hr⟩
    · exact (h.rd z b hr i a ad (old ha).2 hl hab hw).app _
    · exact fk (h.rd 0 b hr i a ad (old ha).2 hl hab hw)
  · rcases wr' z ad hz with hr | ⟨rfl, hr⟩
    · exact (h.wr z ad hr i a (old ha).2 hl).app _
    · exact fk (h.wr 0 ad hr i a (old ha).2 hl)
  · rcases h.sh i a ad (old ha).2 hl hs with ⟨h1, h2⟩ | h1
    · exact .inl ⟨h1, fun e => by rw [g?_old (old ha).1]; exact h2 e⟩
    · refine .inr fun z hz => ?_
      rcases act' z hz with hr | ⟨rfl, hr⟩
      · exact (h1 z hr).app _
      · exact fk (h1 0 hr)
  · rcases h.kn i a (old ha).2 hm with h1 | ⟨h1, h2, h3⟩ | ⟨z, h1, h2, h3⟩
    · exact .inl (h1.app _)
    · exact .inr (.inl ⟨h1, h2, by rw [heard_old (old ha).1]; exact h3⟩)
    · exact .inr (.inr ⟨z, h1, by rw [g?_old (old ha).1]; exact h2, h3⟩)
  · simp only [List.mem_toArray, List.mem_cons, List.not_mem_nil, or_false] at hop
    rcases hop with rfl | rfl
    · rw [hx.2]; trivial
    · rw [hy.2]; trivial
  · rcases Array.mem_append.1 hop with h1 | h1
    · exact Nat.lt_succ_of_lt (h.gs op h1)
    · simp only [List.mem_toArray, List.mem_cons, List.not_mem_nil, or_false] at h1
      rcases h1 with rfl | rfl
      · rw [hx.1]; omega
      · rw [hy.1]; omega

/-- x has said its release: it is noted when. -/
theorem TI.note (h : TI Sh Rd Wr Act rel L B G t) {x r : Nat} (hr : ∀ i a, touchAt t i = some a → i < r) : TI Sh Rd Wr Act (Go.ConcN.upd rel x (some r)) L B G t := by
  refine ⟨h.clean, h.rd, h.wr, h.sh, h.ob, fun i a ha hm => ?_, h.seen, h.gs⟩
  rcases h.kn i a ha hm with h1 | h1 | ⟨y, h1, h2, h3⟩
  · exact .inl h1
  · exact .inr (.inl h1)
  · refine .inr (.inr ⟨y, h1, h2, fun s hs => ?_⟩)
    by_cases e : y = x
    · subst e
      rw [Go.ConcN.upd_same] at hs
      cases hs
      exact hr i a ha
    · rw [Go.ConcN.upd_ne rel _ e] at hs
      exact h3 s hs

/-- THE JOIN: goroutine 0 has said 'acquire' behind all releases: it knows all. -/
theorem TI.join (h : TI Sh Rd Wr Act rel L B G t) {a : Addr} {q : Nat} (hq : t.act? q = some (.mark (.acquire a))) (hg : t.g? q = some 0) (hh : t.heard q) (hn : NoRelease a t)
    (all : ∀ x i, L < x → t.g? i = some x → ∃ r, rel x = some r ∧ RelBy a t x r ∧ r < q) : ∀ i b, touchAt t i = some b → b.loc.isMemory = true → Knows t 0 i ∨ ((∃ ad, b.loc = .cell ad ∧ Sh ad.block) ∧ b.kind = .atomic ∧ ¬ t.heard i) := by
  intro i b hb hm
  rcases h.kn i b hb hm with h1 | h1 | ⟨x, h1, h2, h3⟩
  · exact .inl h1
  · exact .inr h1
  · obtain ⟨r, hr, hrb, hrq⟩ := all x i h1 h2
    have hir := h3 r hr
    obtain ⟨z, hz, hzg⟩ := Option.map_eq_some_iff.1 hg
    refine .inl ⟨q, z, hz, hzg, .inr ?_⟩
    have edge : HappensBefore t r q := .single (.inr ⟨.marked hrq (.inr hrb.act) hq (fun k _ _ => hn k), hrb.heard, hh⟩)
    exact .trans (.single (.inl ⟨hir, x, h2, hrb.g⟩)) edge

/-- At rest: goroutine 0 may touch all that is not Sh. -/
theorem TI.rest (h : TI Sh Rd Wr Act rel L B G t) (all : ∀ i b, touchAt t i = some b → b.loc.isMemory = true → Knows t 0 i ∨ ((∃ ad, b.loc = .cell ad ∧ Sh ad.block) ∧ b.kind = .atomic ∧ ¬ t.heard i))
    (hr : ∀ y b, Rd' y b → y = 0 ∧ ¬ Sh b) (hw : ∀ y ad, Wr' y ad → y = 0 ∧ ¬ Sh ad.block) (ha : ∀ y, Act' y → Act y) {rel' : Nat → Option Nat} {L' : Nat} : TI Sh Rd' Wr' Act' rel' L' B G t := by
  refine ⟨h.clean, fun x b hx i a ad h1 h2 h3 _ => ?_, fun x ad hx i a h1 h2 => ?_, fun i a ad h1 h2 h3 => (h.sh i a ad h1 h2 h3).imp id fun h4 y hy => h4 y (ha y hy), h.ob, fun i a h1 h2 => (all i a h1 h2).imp id .inl, h.seen, h.gs⟩
  · obtain ⟨rfl, hs⟩ := hr x b hx
    rcases all i a h1 (by rw [h2]; rfl) with h4 | ⟨⟨ad', e, h4⟩, _⟩
    · exact h4
    · rw [h2] at e; cases e; exact absurd (h3 ▸ h4) hs
  · obtain ⟨rfl, hs⟩ := hw x ad hx
    rcases all i a h1 (by rw [h2]; rfl) with h4 | ⟨⟨ad', e, h4⟩, _⟩
    · exact h4
    · rw [h2] at e; cases e; exact absurd h4 hs

/-- A block that goroutine 0 alone has touched becomes the library's. -/
theorem TI.addSh {Sh' : Nat → Prop} (h : TI Sh Rd Wr Act rel L B G t) (h1 : ∀ b, Sh b → Sh' b) (h2 : ∀ ad : Addr, Sh' ad.block → Sh ad.block ∨ Wr 0 ad) (h3 : ∀ y, Act y → y = 0) : TI Sh' Rd Wr Act rel L B G t := by
  refine ⟨h.clean, h.rd, h.wr, fun i a ad ha hl hs => ?_, h.ob, fun i a ha hm => ?_, h.seen, h.gs⟩
  · rcases h2 ad hs with hs | hw
    · exact h.sh i a ad ha hl hs
    · exact .inr fun x hx => by rw [h3 x hx]; exact h.wr 0 ad hw i a ha hl
  · rcases h.kn i a ha hm with h4 | ⟨⟨ad, e, h4⟩, h5⟩ | h4
    · exact .inl h4
    · exact .inr (.inl ⟨⟨ad, e, h1 _ h4⟩, h5⟩)
    · exact .inr (.inr h4)

theorem TI.over (h : TI Sh Rd Wr Act rel L B G t) (hL : G ≤ L + 1) : t.HandedOver := by
  intro i g hgi hne hc
  obtain ⟨x, hx, hm, hk⟩ := hc
  rcases h.kn i x hx hm with h1 | ⟨_, h1, h2⟩ | ⟨y, h1, h2, _⟩
  · obtain ⟨q, z, hz, hzg, hb⟩ := h1
    rcases hb with rfl | hb
    · simp only [Trace.g?, hz, Option.map_some, Option.some.injEq] at hgi
      exact absurd (hgi.symm.trans hzg) hne
    · exact ⟨q, by simp [Trace.g?, hz, hzg], hb⟩
  · rcases hk with hk | hk
    · exact absurd h1 hk
    · exact absurd hk h2
  · obtain ⟨z, hz, hzg⟩ := Option.map_eq_some_iff.1 h2
    have := h.gs z (Array.mem_of_getElem? hz)
    omega

theorem TI.nil (B : Nat) : TI (fun _ => False) Rd Wr Act rel L B 1 #[] :=
  ⟨fun said => by rintro ⟨i, j, _, ⟨a, b, ha, _⟩, _⟩; simp [Trace.act?] at ha, fun x b _ i a ad ha => by simp [touchAt, Trace.act?] at ha, fun x ad _ i a ha => by simp [touchAt, Trace.act?] at ha, fun i a ad ha => by simp [touchAt, Trace.act?] at ha,
    fun i a r ha => by simp [touchAt, Trace.act?] at ha, fun i a ha => by simp [touchAt, Trace.act?] at ha, by simp, by simp⟩
end
end Go.Proofs.Ytgeflnjjppgooaa.Y


namespace Go.Proofs.Ytgeflnjjppgooaa.Y
open Go Go.Conc Go.RowKit Go.Proofs.Ytgeflnjjppgooaa Go.Proofs.Ytgeflnjjppgooaa.Q
open Go.ConcR (KK wgBlock WgAt stA smA rd wr mk Payload DC0)
open Go.ConcN (WgLive PayAt Has RW DWs AtR0 WSit)

/-! ### the library's part of the starter's way -/
section
variable (P : Program) (ty : TypeId) (Wg : Nat)
/-- What others do to the group: it lives. -/
def RL (w w₁ : World) : Prop := WgLive ty Wg w → WgLive ty Wg w₁
theorem RL.trans (a b c : World) (h : RL ty Wg a b) (k : RL ty Wg b c) : RL ty Wg a c := fun x => k (h x)
section
variable (After : Goroutine → Prop)
def LKe (g : Goroutine) (w : World) : Prop := g.status = .running ∧ ∃ g', stepG P true g w = .go g' w #[mk .enable] ∧ After g'
def LRd (g : Goroutine) (w : World) : Prop := g.status = .running ∧ ∃ g', stepG P true g w = .go g' w #[mk (.read (smA Wg))] ∧ ∃ m, Goes P true (RL ty Wg) DC0 (LKe P After) m g' w
def LA1 (g : Goroutine) (w : World) : Prop := g.status = .running ∧ ∀ v : Nat, v < 2147483647 → WgAt ty Wg w (v * KK) 0 →
  ∃ g', stepG P true g w = .go g' (w.setCell (stA Wg) (.int .u64 ((v + 1) * KK))) #[rd (stA Wg), wr (stA Wg)] ∧
    (v = 0 → ∃ m, Goes P true (RL ty Wg) DC0 (LRd P ty Wg After) m g' (w.setCell (stA Wg) (.int .u64 ((v + 1) * KK)))) ∧ (v ≠ 0 → ∃ m, Goes P true (RL ty Wg) DC0 (LKe P After) m g' (w.setCell (stA Wg) (.int .u64 ((v + 1) * KK))))
def LKd (g : Goroutine) (w : World) : Prop := g.status = .running ∧ ∃ g', stepG P true g w = .go g' w #[mk .disable] ∧ ∃ m, Goes P true (RL ty Wg) DC0 (LA1 P ty Wg After) m g' w
/-- AT THE CALL OF Add(1). -/
def LAdd (g : Goroutine) : Prop := ∀ w, WgLive ty Wg w → ∃ m, Goes P true (RL ty Wg) DC0 (LKd P ty Wg After) m g w
def LAcq (g : Goroutine) (w : World) : Prop := g.status = .running ∧ ∃ g', stepG P true g w = .go g' w #[mk (.acquire (stA Wg))] ∧ After g'
def LKe2 (g : Goroutine) (w : World) : Prop := g.status = .running ∧ ∃ g', stepG P true g w = .go g' w #[mk .enable] ∧ ∃ m, Goes P true (RL ty Wg) DC0 (LAcq P Wg After) m g' w
def LW4 (g : Goroutine) (w : World) : Prop := g.status = .running ∧ (WgAt ty Wg w 0 0 → ∃ g', stepG P true g w = .go g' w #[rd (stA Wg)] ∧ ∃ m, Goes P true (RL ty Wg) DC0 (LKe2 P ty Wg After) m g' w)
def LW3 (g : Goroutine) (w : World) : Prop := g.status = .running ∧ g.offers = none ∧
  ((∃ st, WgAt ty Wg w st 0) → stepG P true g w = .go { g with status := .blocked } w #[]) ∧
  (WgAt ty Wg w 0 1 → ∃ g', stepG P true g w = .go g' (w.setCell (smA Wg) (.int .u32 0)) (semEvents (smA Wg)) ∧ ∃ m, Goes P true (RL ty Wg) DC0 (LW4 P ty Wg After) m g' (w.setCell (smA Wg) (.int .u32 0)))
def LWr (m : Nat) (g : Goroutine) (w : World) : Prop := g.status = .running ∧ ∃ g', stepG P true g w = .go g' w #[mk (.write (smA Wg))] ∧ Goes P true (RL ty Wg) DC0 (LW3 P ty Wg After) m g' w
variable (AnchW : Goroutine → World → Prop)
def LW2 (vs : Nat) (g : Goroutine) (w : World) : Prop := g.status = .running ∧ ∀ v : Nat, v < 2147483648 → WgAt ty Wg w (v * KK) 0 →
  (v = vs → ∃ g', stepG P true g w = .go g' (w.setCell (stA Wg) (.int .u64 (v * KK + 1))) #[rd (stA Wg), wr (stA Wg)] ∧ ∃ m m', Goes P true (RL ty Wg) DC0 (LWr P ty Wg After m') m g' (w.setCell (stA Wg) (.int .u64 (v * KK + 1)))) ∧
  (v ≠ vs → ∃ g', stepG P true g w = .go g' w #[rd (stA Wg)] ∧ ∃ m, Goes P true (RL ty Wg) DC0 AnchW m g' w)
def LW1 (g : Goroutine) (w : World) : Prop := g.status = .running ∧ ∀ v : Nat, v < 2147483648 → WgAt ty Wg w (v * KK) 0 → ∃ g', stepG P true g w = .go g' w #[rd (stA Wg)] ∧
  (v = 0 → ∃ m, Goes P true (RL ty Wg) DC0 (LKe2 P ty Wg After) m g' w) ∧ (v ≠ 0 → ∃ m, Goes P true (RL ty Wg) DC0 (LW2 P ty Wg After AnchW v) m g' w)
def LKdW (g : Goroutine) (w : World) : Prop := g.status = .running ∧ ∃ g', stepG P true g w = .go g' w #[mk .disable] ∧ ∃ m, Goes P true (RL ty Wg) DC0 AnchW m g' w
/-- AT THE CALL OF Wait. -/
def LWait (g : Goroutine) : Prop := ∃ AnchW : Goroutine → World → Prop, (∀ g w, AnchW g w → g.status = .running) ∧ (∀ g w, AnchW g w → ∃ m, Goes P true (RL ty Wg) DC0 (LW1 P ty Wg After AnchW) m g w) ∧ ∀ w, WgLive ty Wg w → ∃ m, Goes P true (RL ty Wg) DC0 (LKdW P ty Wg AnchW) m g w
end
end

/-! ### the whole -/
/-- What a phase is about: arr: the blocks whose cells the workers fill, own i a: cell a is worker i's; fin: what holds where worker i has done. -/
structure Sc where
  ty : TypeId
  ety : TypeId
  c : Nat
  x : Value
  Wg : Nat
  n : Nat
  vb : World
  arr : Nat → Bool
  own : Nat → Addr → Prop
  fin : Nat → List (Addr × Value) → World → Prop
@[reducible] def Sc.pay (D : Sc) : Payload := ⟨D.ety⟩

section
variable (P : Program) (D : Sc)
/-- AT THE WORKER's Add(-1). -/
def LDone (g : Goroutine) : Prop :=
  letI := D.pay
  ∀ w, WgLive D.ty D.Wg w → Has D.c 0 D.x w → ∃ m, Goes P false (RW D.ty D.Wg D.c 1 0 0) DC0 (AtR0 P D.ty D.Wg D.c 1 0 1 D.x) m g w
def Stop0 (i : Nat) (σ : List (Addr × Value)) (g : Goroutine) (v : World) : Prop := g.status = .running ∧ D.fin i σ v ∧ LDone P D g
/-- A store to a cell of its own. -/
def Stores (i : Nat) (σ : List (Addr × Value)) (g : Goroutine) (a : Addr) (y : Value) (g' : Goroutine) : Prop :=
  D.own i a ∧ (∀ p ∈ σ, p.1 ≠ a) ∧ ∀ w z, w.cell? a = some z → w.frozen? a = false → stepG P false g w = .go g' (w.setCell a y) #[⟨.cell a, true, false⟩]
def WkStop (i : Nat) : Nat → List (Addr × Value) → Goroutine → World → Prop
  | 0, σ, g, v => Stop0 P D i σ g v
  | r + 1, σ, g, v => g.status = .running ∧ ∃ a y g', Stores P D i σ g a y g' ∧ @Go3 noPh P false (WkStop i r ((a, y) :: σ)) g' v
/-- THE WORKER's SCRIPT: r stores to go. -/
def Work (i : Nat) (r : Nat) (σ : List (Addr × Value)) (g : Goroutine) (v : World) : Prop := @Go3 noPh P false (WkStop P D i r σ) g v
/-- .. as one tree. -/
def GoW (i : Nat) : Rk → List (Addr × Value) → Goroutine → World → Prop
  | .leaf, σ, g, v => ∀ v1, Ext v v1 → Stop0 P D i σ g v1
  | .node f, σ, g, v => (∀ v1, Ext v v1 → Stop0 P D i σ g v1) ∨ (g.status = .running ∧ ∀ v1, Ext v v1 →
      (∃ g' v', StepTo P false g v1 g' v' ∧ GoW i (f v1) σ g' v') ∨ ∃ a y g', Stores P D i σ g a y g' ∧ GoW i (f v1) ((a, y) :: σ) g' v1)

/-- What is behind the join. -/
structure Join (v' : World) : Prop where
  tape : v'.tape = D.vb.tape
  os : v'.os = D.vb.os
  output : v'.output = D.vb.output
  size : D.vb.heap.size ≤ v'.heap.size
  old : ∀ b, b < D.vb.heap.size → b ≠ D.Wg → D.arr b = false → v'.heap[b]? = D.vb.heap[b]?
  arr : ∀ b c ty z, D.arr b = true → D.vb.heap[b]? = some (.cells c ty z) → ∃ c', v'.heap[b]? = some (.cells c' ty z) ∧ c'.size = c.size
  wk : ∀ i, i < D.n → ∃ σ vi, D.fin i σ vi ∧ (∀ b, Liv vi b → v'.heap[b]? = vi.heap[b]?) ∧ ∀ p ∈ σ, v'.cell? p.1 = some p.2
variable (K : Goroutine → World → Prop)
def GoStop (k : Nat) (Next : Goroutine → World → Prop) (g : Goroutine) (v : World) : Prop :=
  g.status = .running ∧ ∃ g' child, (∀ w, View v w → stepG P true g w = .spawn g' child w #[]) ∧ child.status = .running ∧
    (∃ r, Work P D k r [] child (frz v)) ∧ Next g' (frz v)
def SpStop : Nat → Goroutine → World → Prop
  | 0, g, _ => g.status = .running ∧ LWait P D.ty D.Wg (fun g' => ∀ v', Join D v' → K g' v') g
  | r + 1, g, v => g.status = .running ∧ LAdd P D.ty D.Wg (fun g' => @Go3 noPh P true (GoStop P D (D.n - (r + 1)) fun g v => @Go3 noPh P true (SpStop r) g v) g' v) g
/-- The starter's view of the phase: all that was there is frozen, the group and the workers' arrays are out of reach. -/
def begin_ : World := kill (fun b => b == D.Wg || D.arr b) (frz D.vb)
/-- What is asked where a phase begins. -/
structure PhOk : Prop where
  n : D.n < 2147483648
  wg : WgAt D.ty D.Wg D.vb 0 0
  arr : ∀ b, D.arr b = true → b ≠ D.Wg ∧ ∃ c ty, D.vb.heap[b]? = some (.cells c ty (0, 0))
  arr0 : ∀ b, D.arr b = true → Liv D.vb b
  own : ∀ i a, D.own i a → D.arr a.block = true ∧ a.spot = none ∧ ∃ y, D.vb.cell? a = some y
  own1 : ∀ i i' a, D.own i a → D.own i' a → i = i'
  c : D.c ≠ D.Wg ∧ D.arr D.c = false ∧ D.vb.heap[D.c]? = some (.cells #[D.x] D.ety)
  finX : ∀ i σ v v1, D.fin i σ v → Ext v v1 → D.fin i σ v1
/-- THE PHASE, as the walk of goroutine 0 bears it. -/
def Phase (P : Program) (m : Bool) (g : Goroutine) (v : World) (K : Goroutine → World → Prop) : Prop :=
  m = true ∧ ∃ D : Sc, D.vb = v ∧ PhOk D ∧ @Go3 noPh P true (SpStop P D K D.n) g (begin_ D)
end
instance phC : PhC := ⟨Phase, Unit, fun _ => true⟩

section
variable {P : Program} {D : Sc} {i : Nat} {σ : List (Addr × Value)} {g : Goroutine} {v v1 : World} {r : Rk}
theorem GoW.ext (h : GoW P D i r σ g v) (hx : Ext v v1) : GoW P D i r σ g v1 := by
  cases r with
  | leaf => exact fun v2 h2 => h v2 (hx.trans h2)
  | node f => exact h.imp (fun h v2 h2 => h v2 (hx.trans h2)) fun h => ⟨h.1, fun v2 h2 => h.2 v2 (hx.trans h2)⟩
theorem GoW.of : ∀ (r : Nat) {σ : List (Addr × Value)} {g : Goroutine} {v : World}, Work P D i r σ g v → ∃ k, GoW P D i k σ g v := by
  classical
  intro r
  induction r with
  | zero =>
    intro σ g v h
    unfold Work at h
    induction h with
    | stop h => exact ⟨.leaf, h⟩
    | @step g v hs g' v' h hn ih =>
      refine ⟨.node fun v1 => if hx : Ext v v1 then (ih v1 hx).choose else .leaf, .inr ⟨hs, fun v1 hx => .inl ⟨g' v1, v' v1, h v1 hx, ?_⟩⟩⟩
      show GoW P D i (if hx : Ext v v1 then (ih v1 hx).choose else .leaf) σ (g' v1) (v' v1)
      rw [dif_pos hx]
      exact (ih v1 hx).choose_spec
    | phase K h hn ih => exact (h _ (Ext.refl _)).elim
  | succ r ihr =>
    intro σ g v h
    unfold Work at h
    induction h with
    | @stop g v h =>
      have h2 : ∀ v1, Ext v v1 → ∃ k a y g', Stores P D i σ g a y g' ∧ GoW P D i k ((a, y) :: σ) g' v1 := fun v1 hx => by
        obtain ⟨_, a, y, g', h3, h4⟩ := h v1 hx
        obtain ⟨k, hk⟩ := ihr h4
        exact ⟨k, a, y, g', h3, hk⟩
      refine ⟨.node fun v1 => if hx : Ext v v1 then (h2 v1 hx).choose else .leaf, .inr ⟨(h v (Ext.refl v)).1, fun v1 hx => .inr ?_⟩⟩
      obtain ⟨a, y, g', h3, h4⟩ := (h2 v1 hx).choose_spec
      refine ⟨a, y, g', h3, ?_⟩
      show GoW P D i (if hx : Ext v v1 then (h2 v1 hx).choose else .leaf) _ g' v1
      rw [dif_pos hx]
      exact h4
    | @step g v hs g' v' h hn ih =>
      refine ⟨.node fun v1 => if hx : Ext v v1 then (ih v1 hx).choose else .leaf, .inr ⟨hs, fun v1 hx => .inl ⟨g' v1, v' v1, h v1 hx, ?_⟩⟩⟩
      show GoW P D i (if hx : Ext v v1 then (ih v1 hx).choose else .leaf) σ (g' v1) (v' v1)
      rw [dif_pos hx]
      exact (ih v1 hx).choose_spec
    | phase K h hn ih => exact (h _ (Ext.refl _)).elim
theorem GoW.cases (h : GoW P D i r σ g v) : Stop0 P D i σ g v ∨ (g.status = .running ∧ ∃ r', Dn r' r ∧ ((∃ g' v', StepTo P false g v g' v' ∧ GoW P D i r' σ g' v') ∨ ∃ a y g', Stores P D i σ g a y g' ∧ GoW P D i r' ((a, y) :: σ) g' v)) := by
  cases r with
  | leaf => exact .inl (h v (Ext.refl v))
  | node f =>
    rcases h with h | ⟨hs, h⟩
    · exact .inl (h v (Ext.refl v))
    · exact .inr ⟨hs, f v, .mk f v, h v (Ext.refl v)⟩
end
end Go.Proofs.Ytgeflnjjppgooaa.Y


namespace Go.Proofs.Ytgeflnjjppgooaa.Y
open Go Go.Conc Go.ConcN Go.RowKit Go.Conc.Lib Go.ConcR.Gen Go.ConcN.Gen
open Go.ConcR (KK wgBlock WgAt stA smA rd wr mk DC0 Payload)
set_option linter.unusedVariables false
set_option linter.unusedSimpArgs false
/-- A step is a function: a walk that lists nothing goes along any other walk that does not stop at such a step. -/
theorem det {P : Program} {m : Bool} {R : World → World → Prop} {Dd : World → World → Array Event → Prop} {S S' : Goroutine → World → Prop} (hR : ∀ w, R w w) (hS : ∀ g w g', S g w → stepG P m g w ≠ .go g' w #[]) :
    ∀ (n' : Nat) {g : Goroutine} {w : World}, Goes P m R DC0 S' n' g w → ∀ {n : Nat}, Goes P m R Dd S n g w → ∃ n2 g2, S' g2 w ∧ Goes P m R Dd S n2 g2 w := by
  intro n'
  induction n' with
  | zero => exact fun {g w} h {n} k => ⟨n, g, h w (hR w), k⟩
  | succ n' ih =>
    intro g w h n k
    rcases h with h | ⟨_, h⟩
    · exact ⟨n, g, h w (hR w), k⟩
    · obtain ⟨g1, w1, es, e1, ⟨rfl, rfl⟩, h2⟩ := goes_elim (h w (hR w))
      cases n with
      | zero => exact absurd e1 (hS _ _ _ (k _ (hR _)))
      | succ n =>
        rcases k with k | ⟨_, k⟩
        · exact absurd e1 (hS _ _ _ (k _ (hR _)))
        · obtain ⟨g2, w2, es2, e2, _, k2⟩ := goes_elim (k _ (hR _))
          rw [e1] at e2
          cases e2
          exact ih h2 k2
variable [Payload] {L : WgLink} {P : Program} {Wg c : Nat} {x : Value} {b₀ : Frame} {a₀ : Act} {ops₀ : Array Oper} {i₀ : Nat} {rest₀ : List Nat} {k₀ : List Item} {cs : List Frame}
set_option maxRecDepth 100000 in
set_option maxHeartbeats 4000000 in
theorem r0walk (H : WgLib P L) :
    ∃ g0, (∀ w, WgLive L.tWg Wg w ∧ Has c 0 x w → Goes P false (RW L.tWg Wg c 1 0 0) DC0 (fun g w => g = g0 ∧ WgLive L.tWg Wg w ∧ Has c 0 x w) 14 (G ((base L.add).at ⟨#[.pointer (some ⟨Wg, 0, none⟩), .int .i64 (-1), undef, undef, undef, undef, undef, undef, undef, undef, undef, undef, undef, undef, undef, undef, undef, undef, undef, undef, undef, undef, undef, undef, undef, undef, undef, undef, undef, undef, undef, undef, undef, undef, undef, undef, undef, undef, undef, undef, undef, undef, undef, undef, undef, undef, undef, undef, undef, undef, undef, undef, undef, undef, undef, undef, undef, undef, undef, undef, undef, undef, undef, undef, undef, undef, undef, undef, undef, undef, undef, undef, undef, undef, undef, undef, undef, undef, undef, undef, undef, undef, undef, undef, undef, undef, undef, undef, undef, undef, undef, undef, undef, undef, undef, undef, undef, undef, undef, undef, undef, undef, undef, undef, undef, undef, undef, undef, undef, undef, undef, undef, undef, undef, undef, undef, undef], []⟩ [.code (body_add L)]) (b₀.at a₀ (.inRegion ops₀ (i₀ :: rest₀) :: k₀) :: cs)) w) ∧
      ∃ g1, (∀ w, stepG P false g0 w = .go g1 w #[mk (.releaseMerge (stA Wg))]) ∧ ∃ gd, (∀ w, WgLive L.tWg Wg w ∧ Has c 0 x w → Goes P false (RW L.tWg Wg c 1 0 0) DC0 (fun g w => g = gd ∧ WgLive L.tWg Wg w ∧ Has c 0 x w) 6 g1 w) ∧
        ∃ g2, ∀ w, stepG P false gd w = .go g2 w #[mk .disable] := by
  lib_facts
  simp only [body_add, addFn, Option.getD_some]
  apply Exists.intro
  apply And.intro
  · intro w hK
    u_c stepG_seq kn_rely hK
    u_cnd true kn_rely hK
    u_c stepG_seq kn_rely hK
    u_c stepG_seq kn_rely hK
    u_reg kn_rely hK
    u_op kn_rely hK
    u_op kn_rely hK
    u_c stepG_region_end kn_rely hK
    u_cnd true kn_rely hK
    u_reg kn_rely hK
    u_op kn_rely hK
    u_conv H.underlying_tWgP H.room_tWg (WgLive.cell0 hK.1).choose_spec kn_rely hK
    exact Goes.stop fun w₁ h₁ => ⟨rfl, kn_rely (C := c) (i := 0) hK h₁⟩
  refine ⟨_, fun w => stepG_markAt .releaseMerge (by simp) rfl rfl (by k_ne) rfl H.f_relMerge (x_relMerge_n L) (x_relMerge_b L) (x_relMerge_x L) (x_relMerge_f L) (by simp [Act.eval, stA]), ?_⟩
  walk_nrm
  apply Exists.intro
  apply And.intro
  · intro w hK
    u_c stepG_region_end kn_rely hK
    u_c stepG_seq kn_rely hK
    u_reg kn_rely hK
    exact Goes.stop fun w₁ h₁ => ⟨rfl, kn_rely (C := c) (i := 0) hK h₁⟩
  exact ⟨_, fun w => stepG_mark0 .disable (by simp) rfl rfl (by k_ne) rfl H.f_disable (x_disable_n L) (x_disable_b L) (x_disable_x L) (x_disable_f L)⟩
/-- A worker at its Add(-1). -/
theorem doneM (H : WgLib P L) {qt : Nat} (hT : QuitsD P qt 0 (G (b₀.at (a₀.put ((ops₀[i₀]?).bind (·.dst)) (.tuple #[])) (.inRegion ops₀ rest₀ :: k₀)) cs)) (w : World) (h1 : WgLive L.tWg Wg w) (h2 : Has c 0 x w) :
    ∃ m, Goes P false (RW L.tWg Wg c 1 0 0) DC0 (AtR0 P L.tWg Wg c 1 0 1 x) m (G ((base L.add).at ⟨#[.pointer (some ⟨Wg, 0, none⟩), .int .i64 (-1), undef, undef, undef, undef, undef, undef, undef, undef, undef, undef, undef, undef, undef, undef, undef, undef, undef, undef, undef, undef, undef, undef, undef, undef, undef, undef, undef, undef, undef, undef, undef, undef, undef, undef, undef, undef, undef, undef, undef, undef, undef, undef, undef, undef, undef, undef, undef, undef, undef, undef, undef, undef, undef, undef, undef, undef, undef, undef, undef, undef, undef, undef, undef, undef, undef, undef, undef, undef, undef, undef, undef, undef, undef, undef, undef, undef, undef, undef, undef, undef, undef, undef, undef, undef, undef, undef, undef, undef, undef, undef, undef, undef, undef, undef, undef, undef, undef, undef, undef, undef, undef, undef, undef, undef, undef, undef, undef, undef, undef, undef, undef, undef, undef, undef, undef], []⟩ [.code (body_add L)]) (b₀.at a₀ (.inRegion ops₀ (i₀ :: rest₀) :: k₀) :: cs)) w := by
  obtain ⟨g0, k0, g1, s1, gd, kd, g2, s2⟩ := r0walk (Wg := Wg) (c := c) (x := x) (b₀ := b₀) (a₀ := a₀) (ops₀ := ops₀) (i₀ := i₀) (rest₀ := rest₀) (k₀ := k₀) (cs := cs) H
  have hR : ∀ w, RW L.tWg Wg c 1 0 0 w w := fun w => RW.refl w
  have hS : ∀ g w g', AtR0 P L.tWg Wg c 1 0 1 x g w → stepG P false g w ≠ .go g' w #[] := by
    rintro g w g' ⟨_, _, g'', h, _⟩ e
    rw [h] at e
    simp at e
  refine ⟨14, goes_mono ?_ (k0 w ⟨h1, h2⟩)⟩
  rintro g w ⟨rfl, h1, h2⟩
  have K := @addNegN _ L P H (fun _ _ => False) (fun _ _ => False) Wg c 1 0 1 x b₀ a₀ ops₀ i₀ rest₀ k₀ cs qt hT w ⟨h1, h2⟩
  obtain ⟨n2, g2', ⟨rfl, _⟩, K2⟩ := det hR hS 14 (k0 w ⟨h1, h2⟩) K
  rcases Goes.cases K2 with hstop | ⟨m', rfl, hstep⟩
  · exact hstop w (hR w)
  · obtain ⟨g3, w3, es, e3, _, K3⟩ := hstep w (hR w)
    rw [s1 w] at e3
    cases e3
    obtain ⟨n4, g4, ⟨rfl, _⟩, K4⟩ := det hR hS 6 (kd w ⟨h1, h2⟩) K3
    rcases Goes.cases K4 with hstop | ⟨m', rfl, hstep⟩
    · obtain ⟨_, _, g5, e5, _⟩ := hstop w (hR w)
      rw [s2 w] at e5
      simp [mk] at e5
    · obtain ⟨g5, w5, es5, e5, ⟨_, hev⟩, _⟩ := hstep w (hR w)
      rw [s2 w] at e5
      cases e5
      exact absurd rfl (hev (mk .disable) (by simp)).2.1
end Go.Proofs.Ytgeflnjjppgooaa.Y


namespace Go.Proofs.Ytgeflnjjppgooaa.Y
open Go Go.Conc Go.RowKit
abbrev lnk : Go.Conc.Lib.WgLink := { add := 72, done := 75, wait := 48, relMerge := 99, disable := 76, enable := 78, inBubble := 84, associate := 100, fatal := 101, uOr := 102, uAdd := 103, raceRead := 104, uLoad := 77, uStore := 105, disassociate := 82, semrelease := 106, acquire := 79, isAssociated := 80, uCas := 81, raceWrite := 83, semacquire := 85, orU64 := 113, addU64 := 114, loadU64 := 107, storeU64 := 115, casU64 := 108, tWgP := 98, tUP := 103, tAssoc := 120, tWg := 76, tAU := 73, tU64 := 71, tUint := 101, tU32 := 74, tPU32 := 107, tPAU := 126, tPU64 := 128, tNoCopy := 68, tANoCopy := 69, tAlign64 := 70 }
theorem lib : Go.Conc.Lib.WgLib Try.prog lnk :=
  ⟨Try.func72, Try.func75, Try.func48, Try.func99, Try.func76, Try.func78, Try.func84, Try.func100, Try.func101, Try.func102, Try.func103, Try.func104, Try.func77, Try.func105, Try.func82, Try.func106, Try.func79, Try.func80, Try.func81, Try.func83, Try.func85, Try.func113, Try.func114, Try.func107, Try.func115, Try.func108, Try.underlying98, Try.runUnderlying98, Try.sizeOf98, Try.isAgg98, Try.zeroValue98, Try.underlying103, Try.runUnderlying103, Try.sizeOf103, Try.isAgg103, Try.zeroValue103, Try.underlying120, Try.runUnderlying120, Try.sizeOf120, Try.isAgg120, Try.zeroValue120, Try.underlying76, Try.runUnderlying76, Try.sizeOf76, Try.isAgg76, Try.zeroValue76, Try.underlying73, Try.runUnderlying73, Try.sizeOf73, Try.isAgg73, Try.zeroValue73, Try.underlying71, Try.runUnderlying71, Try.sizeOf71, Try.isAgg71, Try.zeroValue71, Try.underlying101, Try.runUnderlying101, Try.sizeOf101, Try.isAgg101, Try.zeroValue101, Try.underlying74, Try.runUnderlying74, Try.sizeOf74, Try.isAgg74, Try.zeroValue74, Try.underlying107, Try.runUnderlying107, Try.sizeOf107, Try.isAgg107, Try.zeroValue107, Try.underlying126, Try.runUnderlying126, Try.sizeOf126, Try.isAgg126, Try.zeroValue126, Try.underlying128, Try.runUnderlying128, Try.sizeOf128, Try.isAgg128, Try.zeroValue128, Try.underlying0, Try.runUnderlying0, Try.sizeOf0, Try.isAgg0, Try.zeroValue0, Try.underlying3, Try.runUnderlying3, Try.sizeOf3, Try.isAgg3, Try.zeroValue3, Try.underlying4, Try.runUnderlying4, Try.sizeOf4, Try.isAgg4, Try.zeroValue4, Try.underlying9, Try.runUnderlying9, Try.sizeOf9, Try.isAgg9, Try.zeroValue9, Try.underlying20, Try.runUnderlying20, Try.sizeOf20, Try.isAgg20, Try.zeroValue20, Try.underlying21, Try.runUnderlying21, Try.sizeOf21, Try.isAgg21, Try.zeroValue21, (by kernel_rfl), (by kernel_rfl)⟩
end Go.Proofs.Ytgeflnjjppgooaa.Y


namespace Go.Proofs.Ytgeflnjjppgooaa.Y
open Go Go.Conc Go.RowKit Go.Proofs.Ytgeflnjjppgooaa Go.Proofs.Ytgeflnjjppgooaa.Q Go.Conc.Lib Go.ConcR.Gen Go.ConcN.Gen
attribute [-instance] phC
attribute [local instance] noPh
set_option linter.unusedSimpArgs false

def botF (P : Program) : Frame := { (default : Frame) with fn := P.funcs.size, defers := [], mode := .panicking [goexitEntry] }
def dV (f : FuncId) (cap : Array Value) : Deferred := { target := .fn (.func f) cap, args := #[] }
abbrev goB : Frame := baseD 73
abbrev dnV (p0 : Addr) : Deferred := dV 74 #[.pointer (some p0)]
abbrev fnV (f : FuncId) (cap : Array Value) : Value := .func (.func f) #[] cap
abbrev goT (p0 p1 : Addr) (g : FuncId) (cap : Array Value) (x : Value) : Array Value := #[.pointer (some p0), .pointer (some p1), fnV 74 #[.pointer (some p0)], fnV g cap, x]

/-- Behind Done: it only leaves. -/
theorem quitsEnd (T : Array Value) : QuitsD Try.prog 2 0 (G { goB.at ⟨T, []⟩ [] with mode := .returning } [botF Try.prog]) := by
  refine QuitsD.ctl (g' := G (botF Try.prog) []) rfl (fun w => ?_) ?_
  · simp [G, stepG, unwind, doReturn, results, Frame.at, baseD, botF, Try.func73, Try.f73, seen, GStep.after, goexitEntry]
  refine QuitsD.ctl (g' := { G (botF Try.prog) [] with status := .finished }) rfl (fun w => ?_) ⟨rfl, rfl⟩
  simp [G, stepG, unwind, botF, goexitEntry, Frame.catches]
  rfl

theorem defer_step {P : Program} {main : Bool} {b : Frame} {a : Act} {k : List Item} {cs : List Frame} {w : World} {ops : Array Oper} {i : Nat} {rest : List Nat} {o : Oper} {x : Operand} {f : FuncId} {cap : Array Value} (ho : ops[i]? = some o) (hw : Region.wanted o (yielded ops a.tmps) = true) (hk : b.kind ≠ .early)
    (hop : o.op = .defer { callee := .value x, args := #[], argTypes := #[] }) (ef : a.eval x = fnV f cap) :
    stepG P main (G (b.at a (.inRegion ops (i :: rest) :: k)) cs) w = .go (G (b.at (Act.put ⟨a.tmps, dV f cap :: a.defers⟩ o.dst undef) (.inRegion ops rest :: k)) cs) w #[] := by
  have hr : (execOp a.eval o).run P w = .ok (.defer (dV f cap)) w := by
    unfold execOp
    simp [hop, resolve, Deferred.ofValue, ef, dV]
  have he : (execOp a.eval o).events P w #[] = #[] := by
    unfold execOp
    simp [hop, resolve, Deferred.ofValue, ef]
  have hfin : (b.at ⟨a.tmps, dV f cap :: a.defers⟩ (.inRegion ops (i :: rest) :: k)).finish undef = b.at (Act.put ⟨a.tmps, dV f cap :: a.defers⟩ o.dst undef) (.inRegion ops rest :: k) := by rw [Frame.finish_at, ho]; rfl
  have hk' : (b.kind == CallKind.early) = false := by simpa using hk
  rw [stepG_oper ho hw, ← hfin]
  simp [stepG.apply, hr, he, G, Frame.at, hk', GStep.after, seen_none]
theorem unwindV {P : Program} {main : Bool} {b : Frame} {a : Act} {cs : List Frame} {w : World} {todo : List Item} {ds : List Deferred} {f : FuncId} {fn : Func} {cap : Array Value} {c : Code} (hd : a.defers = dV f cap :: ds) (hf : P.funcs[f]? = some fn) (hname : (fn.name == "runtime.NumGoroutine") = false) (hb : fn.body = some c) :
    stepG P main (G { b.at a todo with mode := .returning } cs) w =
      .go (G ((baseD f).at { tmps := cap ++ Array.replicate (fn.ntmps - cap.size) undef, defers := [] } [.code c]) ({ b.at ⟨a.tmps, ds⟩ todo with mode := .returning } :: cs)) w #[] := by
  have h1 : ¬ fn.name = "runtime.NumGoroutine" := by simpa using hname
  rw [← enter_atD cap hf hb]
  simp [G, stepG, unwind, callDeferred, Frame.at, hd, dV, invoke, callFunc, hf, h1, hb, GStep.after, seen_none]
theorem recover_step {P : Program} {main : Bool} {b : Frame} {a : Act} {k : List Item} {c : Frame} {cs : List Frame} {w : World} {ops : Array Oper} {i : Nat} {rest : List Nat} {o : Oper} (ho : ops[i]? = some o) (hw : Region.wanted o (yielded ops a.tmps) = true) (hk : b.kind = .deferred) (_hro : b.roundOf = none) (hc : c.mode = .returning)
    (hop : o.op = .call { callee := .builtin .recover, args := #[], argTypes := #[] }) :
    stepG P main (G (b.at a (.inRegion ops (i :: rest) :: k)) (c :: cs)) w = .go (G (b.at (a.put o.dst .nilIface) (.inRegion ops rest :: k)) (c :: cs)) w #[] := by
  have hr : (execOp a.eval o).run P w = .ok .recover w := by
    unfold execOp
    simp [hop, resolve, invoke, builtin]
  have he : (execOp a.eval o).events P w #[] = #[] := by
    unfold execOp
    simp [hop, resolve, invoke, builtin]
  have hfin : (b.at a (.inRegion ops (i :: rest) :: k)).finish .nilIface = b.at (a.put o.dst .nilIface) (.inRegion ops rest :: k) := by rw [Frame.finish_at, ho]; rfl
  rw [stepG_oper ho hw, ← hfin]
  simp [stepG.apply, hr, he, G, Frame.at, hk, _hro, hc, tryRecover, GStep.after, seen_none]
theorem born_in {P : Program} {m : Bool} {f : FuncId} {fn : Func} {cap : Array Value} {c : Code} (hf : P.funcs[f]? = some fn) (hname : (fn.name == "runtime.NumGoroutine") = false) (hb : fn.body = some c) (w : World) :
    stepG P m (born P (dV f cap)) w = .go (G ((baseD f).at { tmps := cap ++ Array.replicate (fn.ntmps - cap.size) undef, defers := [] } [.code c]) [botF P]) w #[] := by
  have h1 : ¬ fn.name = "runtime.NumGoroutine" := by simpa using hname
  rw [← enter_atD cap hf hb]
  simp [born, dV, stepG, unwind, callDeferred, invoke, callFunc, hf, h1, hb, seen, GStep.after, G, botF]
theorem go_const {P : Program} {m : Bool} {S : Goroutine → World → Prop} {ops : Array Oper} {i : Nat} {rest : List Nat} {o : Oper} {b : Frame} {a : Act} {k : List Item} {cs : List Frame} {v : World} (x : Value) (ho : ops[i]? = some o) (hw : Region.wanted o (yielded ops a.tmps) = true) (hk : b.kind ≠ .early)
    (hr : ∀ w, (execOp a.eval o).run P w = .ok (.value x) w) (he : ∀ w, (execOp a.eval o).events P w #[] = #[]) (h : Go3 P m S (G (b.at (a.put o.dst x) (.inRegion ops rest :: k)) cs) v) :
    Go3 P m S (G (b.at a (.inRegion ops (i :: rest) :: k)) cs) v :=
  .ctl rfl (fun w => by rw [stepG_value ho hw hk (hr w)]; unfold listed; rw [he w, seen_none]) h

theorem ev_equalIn_nil {P : Program} {t : TypeId} {ms : Array (String × TypeId)} (ht : P.underlying t = some (.interface ms)) (d : Nat) (w : World) (es : Array Event) : (Op.equalIn (d + 1) t .nilIface .nilIface).events P w es = es := by
  unfold Op.equalIn
  simp [run_underlying ht]
theorem ev_neq_nil {P : Program} {t : TypeId} {ms : Array (String × TypeId)} (ht : P.underlying t = some (.interface ms)) (w : World) : (binOp .neq t .nilIface .nilIface).events P w #[] = #[] := by
  have h := ev_equalIn_nil ht 9999 w #[]
  have h2 : (Op.equal t .nilIface .nilIface).events P w #[] = #[] := h
  simp [binOp, h2]
set_option maxRecDepth 100000 in
set_option maxHeartbeats 1000000 in
/-- Behind the function's return: to the entry of Add(-1). -/
theorem tail (W : Nat) (p0 p1 : Addr) (g : FuncId) (cap : Array Value) (x : Value) (ops : Array Oper) :
    ∃ gA : Goroutine, (∀ (S : Goroutine → World → Prop) (v : World), v.cell? p0 = some (.pointer (some ⟨W, 0, none⟩)) → (∀ v1, Ext v v1 → S gA v1) → Go3 Try.prog false S (G (goB.at ⟨goT p0 p1 g cap x, [dnV p0]⟩ [.inRegion ops []]) [botF Try.prog]) v) ∧
      gA.status = .running ∧ ∀ D : Sc, D.ty = lnk.tWg → D.Wg = W → LDone Try.prog D gA := by
  apply Exists.intro
  apply And.intro
  · intro S v hv hS
    refine .ctl rfl (fun _ => stepG_region_end) ?_
    refine .ctl rfl (fun _ => stepG_end) ?_
    refine .ctl rfl (fun _ => unwindV rfl Try.func74 (by kernel_rfl) rfl) ?_
    simp only [Try.f74, Option.getD_some]
    walk_nrm
    refine .ctl rfl (fun _ => stepG_seq) ?_
    refine .ctl rfl (fun _ => stepG_seq) ?_
    refine .ctl rfl (fun _ => stepG_region) ?_
    refine .ctl rfl (fun _ => recover_step rfl rfl rfl rfl rfl rfl) ?_
    refine go_const .nilIface rfl rfl (by decide) (fun _ => rfl) (fun _ => rfl) ?_
    walk_nrm
    refine .ctl rfl (fun _ => stepG_region_end) ?_
    refine .ctl rfl (fun _ => stepG_seq) ?_
    refine .ctl rfl (fun _ => stepG_region) ?_
    refine go_const .nilIface rfl rfl (by decide) (fun _ => rfl) (fun _ => rfl) ?_
    walk_nrm
    refine go_const (.bool false) rfl rfl (by decide) (fun _ => by simp [go_sem, Op.equal]) (fun w => ev_neq_nil Try.underlying20 w) ?_
    walk_nrm
    refine .ctl rfl (fun _ => stepG_region_end) ?_
    refine .ctl rfl (fun _ => stepG_cond (t := false) rfl) ?_
    refine .ctl rfl (fun _ => stepG_skip) ?_
    refine .ctl rfl (fun _ => stepG_region) ?_
    refine go_pure (.pointer (some ⟨W, 0, none⟩)) rfl rfl (by decide) (frop_of (by kernel_rfl) _ fun _ => rfl) (fun v1 hx => by have h9 := (hx.cell (World.block_lt_of_cell hv)).trans hv; simp [execOp, Instr.loadAt, Instr.sureAddr, loadVar, Act.eval, Try.isAgg98, h9]) ?_
    walk_nrm
    refine go_in #[.pointer (some ⟨W, 0, none⟩)] Try.func75 rfl rfl rfl (by decide) (frop_of (by kernel_rfl) _ fun _ => rfl) (fun v1 hx => by simp [execOp, resolve, Deferred.ofValue, invoke, callFunc, Act.eval, Try.func75, Try.f75]) ?_
    simp only [Try.f75, Option.getD_some]
    walk_nrm
    refine .ctl rfl (fun _ => stepG_region) ?_
    refine go_const (.pointer (some ⟨W, 0, none⟩)) rfl rfl (by decide) (fun _ => rfl) (fun _ => rfl) ?_
    walk_nrm
    refine go_in (c := body_add lnk) #[.pointer (some ⟨W, 0, none⟩), .int .i64 (-1)] lib.f_add rfl rfl rfl (by decide) (frop_of (by kernel_rfl) _ fun _ => rfl) (fun v1 hx => by simp [execOp, resolve, Deferred.ofValue, invoke, callFunc, Act.eval, lib.f_add, addFn]) ?_
    rw [show (addFn lnk).ntmps = 117 from rfl]
    walk_nrm
    exact .stop hS
  refine ⟨rfl, fun D h1 h2 => ?_⟩
  subst h2
  intro w h3 h4
  letI := D.pay
  rw [h1] at h3 ⊢
  refine doneM lib (qt := 8) ?_ w h3 h4
  refine QuitsD.ctl rfl (fun _ => stepG_region_end) ?_
  refine QuitsD.ctl rfl (fun _ => stepG_end) ?_
  refine QuitsD.leave0 rfl rfl Try.func75 rfl ?_
  refine QuitsD.ctl rfl (fun _ => stepG_region_end) ?_
  refine QuitsD.ctl rfl (fun _ => stepG_end) ?_
  refine QuitsD.leaveD rfl rfl Try.func74 rfl rfl ?_
  exact quitsEnd _
end Go.Proofs.Ytgeflnjjppgooaa.Y


namespace Go.Proofs.Ytgeflnjjppgooaa.Q
open Go Go.Conc Go.RowKit

theorem all_listed {ops : Array Oper} {listed : Array Bool} (hback : backOk ops = true) (hsz : listed.size = ops.size) (hr : Region.ready .any ops listed = []) : ∀ j, j < ops.size → listed.getD j false = true := by
  apply Classical.byContradiction
  intro hne
  have hex : ∃ j, j < ops.size ∧ listed.getD j true = false := by
    apply Classical.byContradiction
    intro h
    apply hne
    intro j hj
    have : listed.getD j true = true := by
      cases hl : listed.getD j true with
      | true => rfl
      | false => exact absurd ⟨j, hj, hl⟩ h
    have hs : j < listed.size := by omega
    simpa [hs] using this
  have hmin : ∀ m, (∃ j, j ≤ m ∧ j < ops.size ∧ listed.getD j true = false) → ∃ j, j < ops.size ∧ listed.getD j true = false ∧ ∀ i, i < j → listed.getD i true = true := by
    intro m
    induction m with
    | zero => rintro ⟨j, hj, h1, h2⟩; exact ⟨j, h1, h2, fun i hi => by omega⟩
    | succ m ih =>
      rintro ⟨j, hj, h1, h2⟩
      by_cases h : ∃ j, j ≤ m ∧ j < ops.size ∧ listed.getD j true = false
      · exact ih h
      · refine ⟨j, h1, h2, fun i hi => ?_⟩
        cases hi' : listed.getD i true with
        | true => rfl
        | false => exact absurd ⟨i, by omega, by omega, hi'⟩ h
  obtain ⟨j, hj⟩ := hex
  obtain ⟨j, h1, h2, h3⟩ := hmin j ⟨j, Nat.le_refl _, hj⟩
  have hmem : j ∈ Region.ready .any ops listed := by
    refine mem_ready.2 ⟨h2, ops[j], Array.getElem?_eq_getElem h1, fun e he hb => ?_⟩
    have hb' := List.all_eq_true.1 hback j (List.mem_range.2 h1)
    rw [Array.getElem?_eq_getElem h1] at hb'
    have hlt' := Array.all_eq_true'.1 hb' e he
    simp only [hb, Bool.not_true, Bool.false_or, decide_eq_true_eq] at hlt'
    have := h3 e.on hlt'
    have hs : e.on < listed.size := by omega
    simpa [hs] using this
  rw [hr] at hmem
  cases hmem

theorem ready_head {ops ops' : Array Oper} {listed listed' : Array Bool} {i : Nat} (hop : ∀ i, i < ops'.size → ops'[i]? = ops[i]?) (hback : backOk ops' = true) (hs : listed.size = ops.size) (hs' : listed'.size = ops'.size)
    (hl : ∀ i, i < ops'.size → listed.getD i false = listed'.getD i false) (hi : i < ops'.size) (h : i ∈ Region.ready .any ops listed) : i ∈ Region.ready .any ops' listed' := by
  obtain ⟨h1, o, h2, h3⟩ := mem_ready.1 h
  have hlt := (Array.getElem?_eq_some_iff.1 h2).1
  have ho' : ops'[i]? = some o := (hop i hi).trans h2
  refine mem_ready.2 ⟨?_, o, ho', fun e he hb => ?_⟩
  · have := hl i hi
    have a1 : i < listed.size := by omega
    have a2 : i < listed'.size := by omega
    simp [a1, a2] at this h1 ⊢
    rw [← this]; exact h1
  · have hb' := List.all_eq_true.1 hback i (List.mem_range.2 hi)
    rw [ho'] at hb'
    have hlt' := Array.all_eq_true'.1 hb' e he
    simp only [hb, Bool.not_true, Bool.false_or, decide_eq_true_eq] at hlt'
    rw [← hl e.on (by omega)]
    exact h3 e he hb
section
variable [PhC] {P : Program} {ops ops' : Array Oper} {b : Frame} {k : List Item} {cs : List Frame} {m : PhC.M} {S : Goroutine → World → Prop} {Q : Exit → Act → World → Prop}
/-- The first operations by a walk, the late ones (of which T says which are listed) by hand. -/
structure Late (ops ops' : Array Oper) (T : Nat → Bool) (listed listed' : Array Bool) : Prop where
  s : listed.size = ops.size
  s' : listed'.size = ops'.size
  head : ∀ i, i < ops'.size → listed.getD i false = listed'.getD i false
  tail : ∀ i, ops'.size ≤ i → i < ops.size → listed.getD i false = T i
theorem go_late {R : Nat} (T : Nat → Bool) (_hle : ops'.size ≤ ops.size) (hop : ∀ i, i < ops'.size → ops'[i]? = ops[i]?) (hb' : backOk ops' = true) (hb : backOk ops = true) (hT : ∃ j, ops'.size ≤ j ∧ j < ops.size ∧ T j = false)
    (hng : ∀ (i : Nat) o, ops'[i]? = some o → o.guard = none) (hfr : ∀ (i : Nat) o, ops'[i]? = some o → FRop P o) (hk : b.kind ≠ .early)
    (hL : ∀ (fuel t : Nat) (listed listed' : Array Bool) (a : Act) (w : World) (i : Nat), Late ops ops' T listed listed' → ops'.size ≤ i → i ∈ Region.ready .any ops listed → wqAny P .any ops' Q fuel listed' a w →
      Go3 P m S (G (b.at a (.inRegion ops (i :: Region.linearise.go .any ops (R + fuel) t (listed.setIfInBounds i true) []) :: k)) cs) w) :
    ∀ (fuel t : Nat) (listed listed' : Array Bool) (a : Act) (w : World), Late ops ops' T listed listed' → wqAny P .any ops' Q fuel listed' a w →
      Go3 P m S (G (b.at a (.inRegion ops (Region.linearise.go .any ops (R + 1 + fuel) t listed []) :: k)) cs) w := by
  intro fuel
  induction fuel with
  | zero =>
    intro t listed listed' a w hl h
    have hne : Region.ready .any ops listed ≠ [] := fun hr => by
      obtain ⟨j, h1, h2, h3⟩ := hT
      have := all_listed hb hl.s hr j h2
      rw [hl.tail j h1 h2, h3] at this
      cases this
    simp only [Region.linearise.go]
    change Go3 P m S (G (b.at a (.inRegion ops (match (Region.ready .any ops listed)[t % (Region.ready .any ops listed).length]? with
      | some i => Region.linearise.go .any ops R (t / (Region.ready .any ops listed).length) (listed.setIfInBounds i true) [i]
      | none => [].reverse) :: k)) cs) w
    cases hi : (Region.ready .any ops listed)[t % (Region.ready .any ops listed).length]? with
    | none =>
      exfalso
      have hlt := Nat.mod_lt t (List.length_pos_iff.2 hne)
      rw [List.getElem?_eq_getElem hlt] at hi
      cases hi
    | some i =>
      simp only []
      rw [linearise_go_acc, List.reverse_singleton, List.singleton_append]
      have hmem := List.mem_of_getElem? hi
      by_cases hlt : i < ops'.size
      · have := ready_head hop hb' hl.s hl.s' hl.head hlt hmem
        rw [h.1] at this
        cases this
      · exact hL 0 _ listed listed' a w i hl (by omega) hmem h
  | succ fuel ih =>
    intro t listed listed' a w hl h
    have hne : Region.ready .any ops listed ≠ [] := fun hr => by
      obtain ⟨j, h1, h2, h3⟩ := hT
      have := all_listed hb hl.s hr j h2
      rw [hl.tail j h1 h2, h3] at this
      cases this
    rw [show R + 1 + (fuel + 1) = (R + (fuel + 1)) + 1 by omega]
    simp only [Region.linearise.go]
    change Go3 P m S (G (b.at a (.inRegion ops (match (Region.ready .any ops listed)[t % (Region.ready .any ops listed).length]? with
      | some i => Region.linearise.go .any ops (R + (fuel + 1)) (t / (Region.ready .any ops listed).length) (listed.setIfInBounds i true) [i]
      | none => [].reverse) :: k)) cs) w
    cases hi : (Region.ready .any ops listed)[t % (Region.ready .any ops listed).length]? with
    | none =>
      exfalso
      have hlt := Nat.mod_lt t (List.length_pos_iff.2 hne)
      rw [List.getElem?_eq_getElem hlt] at hi
      cases hi
    | some i =>
      simp only []
      rw [linearise_go_acc, List.reverse_singleton, List.singleton_append]
      have hmem := List.mem_of_getElem? hi
      by_cases hlt : i < ops'.size
      · have hm' := ready_head hop hb' hl.s hl.s' hl.head hlt hmem
        obtain ⟨_, o, g2, _⟩ := mem_ready.1 hm'
        have hs := hl.s
        have hs' := hl.s'
        rw [show R + (fuel + 1) = R + 1 + fuel by omega]
        refine go_op (Q := Q) (K := wqAny P .any ops' Q fuel (listed'.setIfInBounds i true)) (by rw [← hop i hlt]; exact g2) (hfr _ _ g2 a.eval fun _ => rfl) hk (fun w1 hx => ?_) fun a' w' h' => ih _ _ (listed'.setIfInBounds i true) a' w' ⟨by simpa using hs, by simpa using hs', fun j hj => ?_, fun j hj1 hj2 => ?_⟩ h'
        · have hd := h.2 i hm' w1 hx
          unfold wqOp at hd
          simp only [g2] at hd
          have hw : ∀ y, Region.wanted o y = true := fun y => by simp [Region.wanted, hng i o g2]
          rw [if_pos (hw _)] at hd ⊢
          exact hd.resolve_right id
        · rw [getD_set (by omega), getD_set (by omega)]
          split
          · rfl
          · exact hl.head j hj
        · rw [getD_set (by omega), if_neg (by omega)]
          exact hl.tail j hj1 hj2
      · exact hL (fuel + 1) _ listed listed' a w i hl (by omega) hmem h
end
end Go.Proofs.Ytgeflnjjppgooaa.Q


namespace Go.Proofs.Ytgeflnjjppgooaa.Q
open Go Go.Conc Go.RowKit Go.Proofs.Ytgeflnjjppgooaa.Y Go.Conc.Lib Go.ConcR.Gen Go.ConcN.Gen
attribute [-instance] phC
set_option linter.unusedSimpArgs false
set_option linter.unusedVariables false

section
variable [PhC] {P : Program} {n : Nat} {w0 : World} {O : List Ent} {E : Env} {o : Oper}
/-- The address of a cell of a list that is not looked at. -/
theorem yq_idxB {t e : TypeId} {x y : Operand} {b m c k : Nat} {i : Int} {kk : IntKind} (ho : o.op = .indexAddr t x y) (ht : P.underlying t = some (.slice e)) (hz : (P.info? e).map (·.size) = some 1)
    (hx : E.opd x = some (.slice (some ⟨b, 0, none⟩) m c)) (hy : E.opd y = some (.int kk i)) (hi : i = (k : Int)) (h1 : k < m) : YQ P w0 O E o (.pointer (some ⟨b, k, none⟩)) := by
  intro ρ w hE hw
  subst hi
  have e1 := cn_slice (hE.get (x := x) (by simp [ho, Op.operands]) hx)
  have e2 := cn_int (hE.get (x := y) (by simp [ho, Op.operands]) hy)
  have hr : (execOp ρ o).run P w = .ok (.value (.pointer (some ⟨b, k, none⟩))) w := by
    simp [execOp, ho, e1, e2, Instr.indexAt, asIntOf, run_underlying ht, h1, info_size hz, adr_add, adr]
  rw [hr]
  exact ⟨rfl, Below.refl _ _⟩
theorem any_sw {l : List Oper} {Q : Exit → Act → World → Prop} (π : List (Nat × Kd)) (hok : (permOk l.length π && pairsOk l.toArray π && backOk l.toArray) = true) (hA : ∀ j o, (j, 2) ∈ π → l[j]? = some o → AOk P n o)
    (h : SW P n w0 l.toArray (fun E O => VE n w0 O E Q .normal) π E O) {a : Act} {w : World} (ha : Models n E a) (hw : Hp w0 O w) : wqAny P .any l.toArray Q l.toArray.size (Array.replicate l.toArray.size false) a w := by
  simp only [Bool.and_eq_true] at hok
  obtain ⟨⟨h1, h2⟩, h3⟩ := hok
  obtain ⟨n1, n2⟩ := permOk_nodup h1
  have hlen : π.length = l.toArray.size := by
    simp only [permOk, Bool.and_eq_true, decide_eq_true_eq] at h1
    simpa using h1.1.2
  have hgd : ∀ {m j : Nat}, (Array.replicate m false).getD j false = false := fun {m j} => by
    rcases Nat.lt_or_ge j m with h | h
    · simp [h]
    · simp [h]
  refine any_of_walk (K := fun E O => VE n w0 O E Q .normal) (fun E E' O O' hE hO h a w ha hw => h a w (ha.mono fun t u ht => by rw [hE]; exact ht) (by simpa using hO [] w (by simpa using hw))) (fun _ _ h => h) h3 _ π _ E O a _ (by omega) (by simp) (fun j hj => ?_) n1 (fun j o _ hj => ?_) h2 (fun j o hj ho => hA j o hj (by simpa using ho)) h ha hw
  · simp only [List.size_toArray] at hj
    exact ⟨fun _ => n2 j hj, fun _ => by simp [hj]⟩
  · rw [hgd] at hj
    cases hj
theorem go_draw {m : Bool} {S : Goroutine → World → Prop} {ops : Array Oper} {id : Nat} {b : Frame} {a : Act} {k : List Item} {cs : List Frame} {v : World} (hm : P.follows .mixedOrders = true)
    (h : ∀ v1, Ext v v1 → ∀ t, Go3 P m S (G (b.at a (.inRegion ops (Region.linearise .any ops t) :: k)) cs) v1) : Go3 P m S (G (b.at a (.code (.region id ops true) :: k)) cs) v := by
  refine Go3.mk rfl fun w1 hx => ⟨G (b.at a (.inRegion ops (Region.schedule (P.follows .mixedOrders) ops (w1.tape w1.drawn (.order b.fn id))) :: k)) cs, w1.at (w1.drawn + 1), fun u hu => ?_, ?_⟩
  · refine ⟨u.at (u.drawn + 1), #[], ?_, ?_, by simp⟩
    · rw [stepG_region_draw, hu.rest]; rfl
    · have e : u.drawn = w1.drawn := by rw [hu.rest]
      rw [e]
      exact ⟨hu.at _, Nat.le_refl _, fun _ h => h, fun _ _ _ => ⟨rfl, rfl⟩, fun _ _ => Iff.rfl, rfl, rfl, rfl, fun _ c _ z h => ⟨c, z, h⟩, fun _ h => h⟩
  · simp only [Region.schedule, hm, Bool.true_or, if_true]
    exact h _ (hx.trans (Ext.drew _ _)) _
end

attribute [local instance] noPh
set_option maxRecDepth 20000
/-- What the workers of a call share. -/
structure WC where
  n : Nat
  q1 : Nat
  q2 : Nat
  q3 : Nat
  q4 : Nat
  bA : Nat
  bB : Nat
  a : Option Addr
  a1 : Option Addr
  a2 : Option Addr
  c : Nat
  c1 : Nat
  c2 : Nat
  f : Nat → Option Addr × Nat
  xss : List (List Nat)
  ws : List Nat
  gs : List Nat
namespace WC
variable (C : WC)
def N : Nat := (C.xss.getD 0 []).length
def nb : Nat := blocksN C.xss.length
def ka (k : Nat) : List Nat := blockA C.xss C.gs (k * 8) (min 8 (C.xss.length - k * 8)) C.N
def kb (k : Nat) : List Nat := blockB C.xss C.ws C.gs (k * 8) (min 8 (C.xss.length - k * 8)) C.N
structure Ok : Prop where
  hsz : bulk C.xss + C.ws.length + C.gs.length ≤ 1050000
  hval : ValidP C.xss C.ws C.gs
  hn : 1 ≤ C.n
  hn8 : C.n ≤ 8
  hAB : C.bA ≠ C.bB
structure Kn (w : World) : Prop where
  h1 : Cl w (some ⟨C.q1, 0, none⟩) [.slice C.a C.xss.length C.c, .slice C.a1 C.ws.length C.c1, .slice C.a2 C.gs.length C.c2]
  h2 : Cl w (some ⟨C.q2, 0, none⟩) [.int .i64 (C.n : Int)]
  h3 : Cl w (some ⟨C.q3, 0, none⟩) [.slice (some ⟨C.bA, 0, none⟩) C.nb C.nb]
  h4 : Cl w (some ⟨C.q4, 0, none⟩) [.slice (some ⟨C.bB, 0, none⟩) C.nb C.nb]
  hA : Cl w C.a (hd C.f C.xss)
  hR : Rws w C.f C.xss
  hW : Cl w C.a1 (fl C.ws)
  hG : Cl w C.a2 (fl C.gs)
variable {C}
theorem Kn.below {w w' : World} (h : C.Kn w) (hb : Below w.heap.size w w') : C.Kn w' := ⟨h.h1.below hb, h.h2.below hb, h.h3.below hb, h.h4.below hb, h.hA.below hb, h.hR.below hb, h.hW.below hb, h.hG.below hb⟩
variable (C)
def env (q0 k : Nat) : Env := [(5, .int .i64 (k : Int)), (0, .pointer (some (adr (some ⟨q0, 0, none⟩) 0))), (1, .pointer (some (adr (some ⟨C.q1, 0, none⟩) 0))), (2, .pointer (some (adr (some ⟨C.q2, 0, none⟩) 0))), (3, .pointer (some (adr (some ⟨C.q3, 0, none⟩) 0))), (4, .pointer (some (adr (some ⟨C.q4, 0, none⟩) 0)))]
abbrev eA (k x : Nat) : Ent := ⟨some ⟨x, 0, none⟩, fl (C.ka k), (C.N * C.N) * 1, 26⟩
abbrev eB (k x : Nat) : Ent := ⟨some ⟨x, 0, none⟩, fl (C.kb k), C.N * 1, 26⟩
/-- What a worker has made ahead of block k. -/
structure Got (i k : Nat) (σ : List (Addr × Value)) (v : World) : Prop where
  got : ∀ j, j < k → j < C.nb → j % C.n = i → ∃ x1 x2, ((⟨C.bA, j, none⟩, .slice (some ⟨x1, 0, none⟩) (C.N * C.N) (C.N * C.N)) : Addr × Value) ∈ σ ∧ ((⟨C.bB, j, none⟩, .slice (some ⟨x2, 0, none⟩) C.N C.N) : Addr × Value) ∈ σ ∧ (C.eA j x1).at 0 v ∧ (C.eB j x2).at 0 v
  key : ∀ p ∈ σ, ∃ j, j < k ∧ (p.1 = ⟨C.bA, j, none⟩ ∨ p.1 = ⟨C.bB, j, none⟩)
variable {C}
theorem Got.below {i k : Nat} {σ : List (Addr × Value)} {v w : World} (h : C.Got i k σ v) (hb : Below v.heap.size v w) : C.Got i k σ w :=
  ⟨fun j h1 h2 h3 => by obtain ⟨x1, x2, g1, g2, g3, g4⟩ := h.got j h1 h2 h3; exact ⟨x1, x2, g1, g2, g3.of_below hb, g4.of_below hb⟩, h.key⟩
end WC

noncomputable def L46 : Code := match Try.f46.body with | some (.seq _ (.block _ (.loop L))) => L | _ => .skip
noncomputable def H46 : Code := match L46 with | .seq x _ => x | _ => .skip
noncomputable def R46 : Code := match L46 with | .seq _ (.seq (.block _ x) _) => x | _ => .skip
noncomputable def T46 : Code := match L46 with | .seq _ (.seq _ x) => x | _ => .skip
noncomputable def ops46 : Array Oper := match R46 with | .region _ o _ => o | _ => #[]
noncomputable def hd46 : List Oper := ops46.toList.take 11
theorem body46 : Try.f46.body = some (.seq (match Try.f46.body with | some (.seq x _) => x | _ => .skip) (.block 0 (.loop L46))) := rfl

theorem sz30 : (Try.prog.info? 30).map (·.size) = some 3 := by kernel_rfl
theorem fb22 : flatB Try.prog 22 = true := by kernel_rfl
theorem fb3 : flatB Try.prog 3 = true := by kernel_rfl
theorem sz23 : (Try.prog.info? 23).map (·.size) = some 1 := by kernel_rfl
theorem known44 : Known Try.prog 44 := Known.mk' Try.func44 (by kernel_rfl)
theorem known47 : Known Try.prog 47 := Known.mk' Try.func47 (by kernel_rfl)
theorem mixed : Try.prog.follows .mixedOrders = true := by kernel_rfl

section
variable {C : WC} {q0 k : Nat} {v : World}
/-- The loop's head. -/
theorem head46 (H : C.Ok) (hK : C.Kn v) : V Try.prog 26 v [] (C.env q0 k) H46 (fun e a' w' => Models 26 (C.env q0 k) a' ∧ Below v.heap.size v w' ∧ ((e = .normal ∧ k < C.nb) ∨ (e = .exit 0 ∧ C.nb ≤ k))) := by
  obtain ⟨h1, h2, h3, h4, hA, hR, hW, hG⟩ := hK
  obtain ⟨hsz, hval, hn, hn8, hAB⟩ := H
  have hxl : C.xss.length ≤ bulk C.xss := by unfold bulk; omega
  refine V.seq ?_
  refine V.region ?_
  refine VL.r (.inl rfl) rfl (by decide) (yr_move rfl rfl) ?_
  refine VL.q (.inl rfl) rfl (by decide) (yq_loadS rfl Try.underlying30 sz30 rfl (Sees.root h1) rfl rfl rfl) ?_
  refine VL.q (.inl rfl) rfl (by decide) (yq_callf rfl known44 (.cons rfl .nil) (fun w hw => (c_blocks (by omega)))) ?_
  refine VL.r (.inl rfl) rfl (by decide) (yr_icmp rfl (.inr (.inr (.inl rfl))) rfl rfl) ?_
  refine VL.nil ?_
  refine VE.then_wp ?_
  refine V.cond rfl (fun h1 => ?_) (fun h1 => ?_)
  · replace h1 := ic_lss h1
    refine V.skip fun a' w' ha hw => ⟨ha.mono (Cov.get (.cons rfl (.cons rfl (.cons rfl (.cons rfl (.cons rfl (.cons rfl .nil))))))), hw.below, .inl ⟨rfl, ?_⟩⟩
    unfold WC.nb
    omega
  · replace h1 := ic_lss' h1
    refine V.exit fun a' w' ha hw => ⟨ha.mono (Cov.get (.cons rfl (.cons rfl (.cons rfl (.cons rfl (.cons rfl (.cons rfl .nil))))))), hw.below, .inr ⟨rfl, ?_⟩⟩
    unfold WC.nb
    omega
def WC.mid (C : WC) (q0 k x1 x2 : Nat) : Env := (22, .slice (some ⟨x1, 0, none⟩) (C.N * C.N) (C.N * C.N)) :: (23, .slice (some ⟨x2, 0, none⟩) C.N C.N) :: (24, .pointer (some ⟨C.bA, k, none⟩)) :: (17, .slice (some ⟨C.bB, 0, none⟩) C.nb C.nb) :: (18, .int .i64 (k : Int)) :: C.env q0 k
theorem le_len (hk : k < C.nb) : k * 8 ≤ C.xss.length := by
  unfold WC.nb blocksN at hk
  omega
/-- The part of a round that is drawn. -/
theorem mid46 (H : C.Ok) (hK : C.Kn v) (hk : k < C.nb) {a : Act} (ha : Models 26 (C.env q0 k) a) {w : World} (hw : Below v.heap.size v w) : wqAny Try.prog .any hd46.toArray (fun e a' w' => e = .normal ∧ ∃ x1 x2, Models 26 (C.mid q0 k x1 x2) a' ∧ Hp v [C.eB k x2, C.eA k x1] w') hd46.toArray.size (Array.replicate hd46.toArray.size false) a w := by
  have hle := le_len hk
  obtain ⟨h1, h2, h3, h4, hA, hR, hW, hG⟩ := hK
  obtain ⟨hsz, hval, hn, hn8, hAB⟩ := H
  refine any_sw (w0 := v) (O := []) [(0, 0), (1, 0), (2, 0), (3, 0), (4, 0), (5, 0), (6, 1), (7, 0), (8, 0), (9, 0), (10, 0)] (by kernel_rfl) (by intro j o hj; simp at hj) ?_ ha ⟨hw, (fun _ h => by cases h), .nil⟩
  refine SW.q rfl (.inl rfl) rfl (by decide) (yq_load rfl fb22 rfl (Sees.root h3) rfl) ?_
  refine SW.r rfl (.inl rfl) rfl (by decide) (yr_move rfl rfl) ?_
  refine SW.q rfl (.inl rfl) rfl (by decide) (yq_load rfl fb22 rfl (Sees.root h4) rfl) ?_
  refine SW.r rfl (.inl rfl) rfl (by decide) (yr_move rfl rfl) ?_
  refine SW.q rfl (.inl rfl) rfl (by decide) (yq_loadS rfl Try.underlying30 sz30 rfl (Sees.root h1) rfl rfl rfl) ?_
  refine SW.r rfl (.inl rfl) rfl (by decide) (yr_move rfl rfl) ?_
  refine SW.new rfl (.inl rfl) rfl (by decide) (yn_callf rfl known47 (.cons rfl (.cons rfl .nil)) (fun w hw => (c_block (blk := k) (Sees.root hA w hw) (hR.root hw) (Sees.root hW w hw) (Sees.root hG w hw) hsz hval rfl rfl rfl hle))) ?_
  rintro ⟨x1, x2⟩
  refine SW.r rfl (.inl rfl) rfl (by decide) (yr_move rfl rfl) ?_
  refine SW.r rfl (.inl rfl) rfl (by decide) (yr_extract rfl rfl rfl (by nofun)) ?_
  refine SW.r rfl (.inl rfl) rfl (by decide) (yr_extract rfl rfl rfl (by nofun)) ?_
  refine SW.q rfl (.inl rfl) rfl (by decide) (yq_idxB (k := k) rfl Try.underlying22 sz23 rfl rfl rfl hk) ?_
  exact fun a' w' ha hw => ⟨rfl, x1, x2, ha.mono (Cov.get (.cons rfl (.cons rfl (.cons rfl (.cons rfl (.cons rfl (.cons rfl (.cons rfl (.cons rfl (.cons rfl (.cons rfl (.cons rfl .nil)))))))))))), hw⟩
/-- The round's end: on to the worker's next block. -/
theorem tail46 (H : C.Ok) (hK : C.Kn v) (hk : k < C.nb) : V Try.prog 26 v [] (C.env q0 k) T46 (fun e a' w' => e = .normal ∧ Models 26 (C.env q0 (k + C.n)) a' ∧ Below v.heap.size v w') := by
  obtain ⟨h1, h2, h3, h4, hA, hR, hW, hG⟩ := hK
  obtain ⟨hsz, hval, hn, hn8, hAB⟩ := H
  have hxl : C.xss.length ≤ bulk C.xss := by unfold bulk; omega
  have hb : C.nb ≤ 1050007 := by unfold WC.nb; have := blocksN_le C.xss.length; omega
  refine V.region ?_
  refine VL.r (.inl rfl) rfl (by decide) (yr_move rfl rfl) ?_
  refine VL.q (.inl rfl) rfl (by decide) (yq_load rfl fb3 rfl (Sees.root h2) rfl) ?_
  refine VL.r (.inl rfl) rfl (by decide) (yr_int rfl rfl rfl (.inl ⟨rfl, wrap_in (by omega)⟩)) ?_
  refine VL.r (.inl rfl) rfl (by decide) (yr_assign rfl rfl) ?_
  refine VL.nil fun a' w' ha hw => ⟨rfl, ha.mono (Cov.get (.cons ?_ (.cons rfl (.cons rfl (.cons rfl (.cons rfl (.cons rfl .nil))))))), hw.below⟩
  exact congrArg (fun i => some (Value.int .i64 i)) (by omega)
end
end Go.Proofs.Ytgeflnjjppgooaa.Q


namespace Go.Proofs.Ytgeflnjjppgooaa.Q
open Go Go.Conc Go.RowKit Go.Proofs.Ytgeflnjjppgooaa.Y Go.Conc.Lib Go.ConcR.Gen Go.ConcN.Gen
attribute [-instance] phC
attribute [local instance] noPh
set_option maxRecDepth 20000
set_option linter.unusedSimpArgs false
set_option linter.unusedVariables false

theorem store_slice {P : Program} {m : Bool} {b : Frame} {a : Act} {k : List Item} {cs : List Frame} {ops : Array Oper} {i : Nat} {rest : List Nat} {o : Oper} {t : TypeId} {x y : Operand} {ad : Addr} {p : Option Addr} {l c : Nat} (ho : ops[i]? = some o) (hw : Region.wanted o (yielded ops a.tmps) = true) (hk : b.kind ≠ .early) (hop : o.op = .store t x y) (ht : flatB P t = true) (hs : (P.info? t).map (·.size) = some 1) (hd : o.dst = none)
    (hx : a.eval x = .pointer (some ad)) (hy : a.eval y = .slice p l c) (hq : (P.funcs[b.fn]?).any (·.norace) = false) (w : World) (z : Value) (hc : w.cell? ad = some z) (hz : w.frozen? ad = false) :
    stepG P m (G (b.at a (.inRegion ops (i :: rest) :: k)) cs) w = .go (G (b.at a (.inRegion ops rest :: k)) cs) (w.setCell ad (.slice p l c)) #[⟨.cell ad, true, false⟩] := by
  have hr : (execOp a.eval o).run P w = .ok .skip (w.setCell ad (.slice p l c)) := by
    unfold execOp
    simp only [hop, hx, hy]
    simp [go_sem, stored, hc, hz, run_isAgg_flat ht, info_size hs]
  have he : (execOp a.eval o).events P w #[] = #[⟨.cell ad, true, false⟩] := by
    unfold execOp
    simp only [hop, hx, hy]
    have h1 : (store ad (.slice p l c)).events P w #[] = #[⟨.cell ad, true, false⟩] := by
      rw [events_store (hv := rfl)]
      simp [storedEv, hc, hz]
    simp [go_sem, hc, hz, run_isAgg_flat ht, info_size hs, h1]
  rw [stepG_none ho hw hk hr]
  unfold listed
  rw [he, seen_eq hq (by simp), hd]
  rfl

theorem lin_one {ops : Array Oper} {f t i : Nat} {L : Array Bool} {acc : List Nat} (hr : Region.ready .any ops L = [i]) : Region.linearise.go .any ops (f + 1) t L acc = Region.linearise.go .any ops f t (L.setIfInBounds i true) (i :: acc) := by
  simp only [Region.linearise.go]
  change (match (Region.ready .any ops L)[t % (Region.ready .any ops L).length]? with
      | some i => Region.linearise.go .any ops f (t / (Region.ready .any ops L).length) (L.setIfInBounds i true) (i :: acc)
      | none => acc.reverse) = _
  rw [hr]
  simp [Nat.mod_one]
theorem lin_none {ops : Array Oper} {f t : Nat} {L : Array Bool} {acc : List Nat} (hr : Region.ready .any ops L = []) : Region.linearise.go .any ops f t L acc = acc.reverse := by
  cases f with
  | zero => rfl
  | succ f =>
    simp only [Region.linearise.go]
    change (match (Region.ready .any ops L)[t % (Region.ready .any ops L).length]? with
      | some i => Region.linearise.go .any ops f (t / (Region.ready .any ops L).length) (L.setIfInBounds i true) (i :: acc)
      | none => acc.reverse) = _
    rw [hr]
    rfl
theorem late46 {i j : Nat} {o : Oper} (hi : 11 ≤ i) (ho : ops46[i]? = some o) (hj : j < i) (hx : i = 11 → j ≠ 3 ∧ j ≠ 9) : ∃ e ∈ o.after, Region.binds .any e = true ∧ e.on = j := by
  have h : ((List.range 14).all fun i => decide (i < 11) || (match ops46[i]? with | some o => (List.range i).all fun j => (decide (i = 11) && (decide (j = 3) || decide (j = 9))) || o.after.any fun e => Region.binds .any e && e.on == j | none => true)) = true := by kernel_rfl
  have e3 : ops46.size = 14 := by kernel_rfl
  have hlt := (Array.getElem?_eq_some_iff.1 ho).1
  have h1 := List.all_eq_true.1 h i (List.mem_range.2 (by omega))
  rw [ho, decide_eq_false (by omega), Bool.false_or] at h1
  have h2 := List.all_eq_true.1 h1 j (List.mem_range.2 hj)
  rw [Bool.or_eq_true] at h2
  rcases h2 with h2 | h2
  · simp at h2
    obtain ⟨g1, g2⟩ := h2
    have := hx g1
    omega
  · obtain ⟨e, he, h3⟩ := Array.any_eq_true'.1 h2
    simp only [Bool.and_eq_true, beq_iff_eq] at h3
    exact ⟨e, he, h3⟩
theorem sz46 : ops46.size = 14 := by kernel_rfl
theorem szh46 : hd46.toArray.size = 11 := by kernel_rfl
/-- A late operation comes up: what it waits for is listed. -/
theorem up46 {T : Nat → Bool} {listed listed' : Array Bool} {i : Nat} (hl : Late ops46 hd46.toArray T listed listed') (hi : 11 ≤ i) (h : i ∈ Region.ready .any ops46 listed) : i < 14 ∧ T i = false ∧ (∀ j, j < 11 → (i = 11 → j ≠ 3 ∧ j ≠ 9) → listed'.getD j false = true) ∧ ∀ j, 11 ≤ j → j < i → T j = true := by
  obtain ⟨h1, o, h2, h3⟩ := mem_ready.1 h
  have hlt := (Array.getElem?_eq_some_iff.1 h2).1
  have e3 := sz46
  have e4 := szh46
  have hs := hl.s
  refine ⟨by omega, ?_, fun j hj hx => ?_, fun j hj1 hj2 => ?_⟩
  · rw [← hl.tail i (by omega) hlt]
    exact getDb h1
  · obtain ⟨e, he, hb, rfl⟩ := late46 hi h2 (by omega) hx
    rw [← hl.head e.on (by omega)]
    exact h3 e he hb
  · obtain ⟨e, he, hb, rfl⟩ := late46 hi h2 hj2 (by omega)
    rw [← hl.tail e.on (by omega) (by omega)]
    exact h3 e he hb
def Agr (a0 a : Act) : Prop := ∀ t, t ≠ 18 → t ≠ 23 → a.tmps[t]? = a0.tmps[t]?
theorem op39 {i : Nat} {a : Act} {w : World} {K : Act → World → Prop} {Q : Exit → Act → World → Prop} (hi : i = 3 ∨ i = 9) (h : wqOp Try.prog hd46.toArray Q i K a w) :
    ∃ d v, (d = 18 ∨ d = 23) ∧ K (a.put (some d) v) w ∧ ∀ K' Q', K' (a.put (some d) v) w → wqOp Try.prog hd46.toArray Q' i K' a w := by
  rcases hi with rfl | rfl
  · obtain ⟨o, ho, hop, hd, hg⟩ : ∃ o, hd46.toArray[3]? = some o ∧ o.op = .move (.tmp 5) ∧ o.dst = some 18 ∧ o.guard = none := ⟨_, rfl, rfl, rfl, rfl⟩
    have hr : (execOp a.eval o).run Try.prog w = .ok (.value (a.eval (.tmp 5))) w := by simp [execOp, hop]
    have hw : ∀ y, Region.wanted o y = true := fun y => by simp [Region.wanted, hg]
    unfold wqOp at h ⊢
    simp only [ho] at h ⊢
    rw [if_pos (hw _)] at h
    have h := h.resolve_right id
    unfold OperWq at h
    rw [hr] at h
    replace h : K (a.put o.dst _) w := h
    rw [hd] at h
    refine ⟨18, _, .inl rfl, h, fun K' Q' hk => ?_⟩
    rw [if_pos (hw _)]
    refine .inl ?_
    unfold OperWq
    rw [hr]
    show K' (a.put o.dst _) w
    rw [hd]; exact hk
  · obtain ⟨o, ho, hop, hd, hg⟩ : ∃ o, hd46.toArray[9]? = some o ∧ o.op = .extract (.tmp 14) 1 ∧ o.dst = some 23 ∧ o.guard = none := ⟨_, rfl, rfl, rfl, rfl⟩
    have hw : ∀ y, Region.wanted o y = true := fun y => by simp [Region.wanted, hg]
    unfold wqOp at h ⊢
    simp only [ho] at h ⊢
    rw [if_pos (hw _)] at h
    have h := h.resolve_right id
    unfold OperWq at h
    have hr : (∃ u, (execOp a.eval o).run Try.prog w = .ok (.value u) w) ∨ uponQ Try.prog o a K ((execOp a.eval o).run Try.prog w) = False := by
      simp only [execOp, hop, Instr.extract]
      split
      · split
        · exact .inl ⟨_, by simp; rfl⟩
        · exact .inr (by simp [uponQ])
      · exact .inr (by simp [uponQ])
    rcases hr with ⟨u, hr⟩ | hr
    · rw [hr] at h
      replace h : K (a.put o.dst _) w := h
      rw [hd] at h
      refine ⟨23, _, .inr rfl, h, fun K' Q' hk => ?_⟩
      rw [if_pos (hw _)]
      refine .inl ?_
      unfold OperWq
      rw [hr]
      show K' (a.put o.dst _) w
      rw [hd]; exact hk
    · rw [hr] at h; exact h.elim
theorem agr_put {a0 a : Act} {d : Nat} {v : Value} (h : Agr a0 a) (hd : d = 18 ∨ d = 23) : Agr a0 (a.put (some d) v) := by
  intro t h1 h2
  rw [← h t h1 h2]
  simp only [Act.put]
  exact Array.getElem?_setIfInBounds_ne (by omega)
theorem is39 {listed' : Array Bool} (hs : listed'.size = 11) (hj : ∀ j, j < 11 → j ≠ 3 → j ≠ 9 → listed'.getD j false = true) {i : Nat} (h : i ∈ Region.ready .any hd46.toArray listed') : i = 3 ∨ i = 9 := by
  obtain ⟨h1, o, h2, h3⟩ := mem_ready.1 h
  have hlt := (Array.getElem?_eq_some_iff.1 h2).1
  have e4 := szh46
  apply Classical.byContradiction
  intro hn
  have := hj i (by omega) (by omega) (by omega)
  rw [getDb h1] at this
  cases this
theorem set39 {listed' : Array Bool} {i : Nat} (hs : listed'.size = 11) (hj : ∀ j, j < 11 → j ≠ 3 → j ≠ 9 → listed'.getD j false = true) (hi : i = 3 ∨ i = 9) : (listed'.setIfInBounds i true).size = 11 ∧ ∀ j, j < 11 → j ≠ 3 → j ≠ 9 → (listed'.setIfInBounds i true).getD j false = true :=
  ⟨by simpa using hs, fun j h1 h2 h3 => by rw [getD_set (by omega), if_neg (by omega)]; exact hj j h1 h2 h3⟩
/-- Only two quiet operations are left: what they leave alone stays. -/
theorem frame46 {Q : Exit → Act → World → Prop} (hQ : ∀ a w w1, Ext w w1 → Q .normal a w → Q .normal a w1) {a0 : Act} : ∀ (fuel : Nat) (listed' : Array Bool) (a : Act) (w w1 : World), listed'.size = 11 → (∀ j, j < 11 → j ≠ 3 → j ≠ 9 → listed'.getD j false = true) → Agr a0 a → Ext w w1 →
    wqAny Try.prog .any hd46.toArray Q fuel listed' a w → wqAny Try.prog .any hd46.toArray (fun e a w => Q e a w ∧ Agr a0 a) fuel listed' a w1 := by
  intro fuel
  induction fuel with
  | zero => exact fun listed' a w w1 _ _ h3 hx h => ⟨h.1, hQ _ _ _ hx h.2, h3⟩
  | succ fuel ih =>
    intro listed' a w w1 h1 h2 h3 hx h
    refine ⟨fun hr => ⟨hQ _ _ _ hx (h.1 hr), h3⟩, fun i hi w2 hx2 => ?_⟩
    have hi' := is39 h1 h2 hi
    obtain ⟨d, v, g1, g2, g3⟩ := op39 hi' (h.2 i hi w2 (hx.trans hx2))
    exact g3 _ _ (ih _ _ _ _ (set39 h1 h2 hi').1 (set39 h1 h2 hi').2 (agr_put h3 g1) (Ext.refl _) g2)
theorem finish46 {Q : Exit → Act → World → Prop} : ∀ (fuel : Nat) (listed' : Array Bool) (a : Act) (w : World), listed'.size = 11 → (∀ j, j < 11 → j ≠ 3 → j ≠ 9 → listed'.getD j false = true) → wqAny Try.prog .any hd46.toArray Q fuel listed' a w → ∃ a2, Q .normal a2 w := by
  intro fuel
  induction fuel with
  | zero => exact fun listed' a w _ _ h => ⟨a, h.2⟩
  | succ fuel ih =>
    intro listed' a w h1 h2 h
    cases hr : Region.ready .any hd46.toArray listed' with
    | nil => exact ⟨a, h.1 hr⟩
    | cons i l =>
      have hi : i ∈ Region.ready .any hd46.toArray listed' := by rw [hr]; exact List.mem_cons_self
      have hi' := is39 h1 h2 hi
      obtain ⟨d, v, g1, g2, g3⟩ := op39 hi' (h.2 i hi w (Ext.refl _))
      exact ih _ _ _ (set39 h1 h2 hi').1 (set39 h1 h2 hi').2 g2
theorem hop46 : ∀ i, i < hd46.toArray.size → hd46.toArray[i]? = ops46[i]? := by
  intro i hi
  have e : hd46.toArray.size = 11 := by kernel_rfl
  rw [List.getElem?_toArray, hd46, List.getElem?_take_of_lt (by omega), Array.getElem?_toList]
theorem hng46 : ∀ (i : Nat) o, hd46.toArray[i]? = some o → o.guard = none := by
  intro i o ho
  have h : (hd46.all fun o => o.guard.isNone) = true := by kernel_rfl
  have := List.all_eq_true.1 h o (List.mem_of_getElem? (by simpa using ho))
  simpa using this

theorem rep_getD {m j : Nat} : (Array.replicate m false).getD j false = false := by
  rcases Nat.lt_or_ge j m with h | h
  · simp [h]
  · simp [h]
theorem fbS : flatB Try.prog 23 = true := by kernel_rfl
theorem szS : (Try.prog.info? 23).map (·.size) = some 1 := sz23
theorem _root_.Go.Proofs.Ytgeflnjjppgooaa.Ent.at.zero {B : Nat} {w : World} {e : Ent} (h : e.at B w) : e.at 0 w := h.imp_right fun ⟨b, c, h1, _, h3⟩ => ⟨b, c, h1, Nat.zero_le _, h3⟩
theorem loud46 : (Try.prog.funcs[(base 46).fn]?).any (·.norace) = false := by kernel_rfl

section
variable {C : WC} {D : Sc} {i W q0 : Nat} {p0 p1 : Addr} {cap : Array Value} {opsG : Array Oper}
noncomputable abbrev csW (p0 p1 : Addr) (cap : Array Value) (opsG : Array Oper) : List Frame := [goB.at ⟨goT p0 p1 46 cap undef, [dnV p0]⟩ [.inRegion opsG [1]], botF Try.prog]
theorem exit46 (hG : (opsG[1]?).bind (·.dst) = some 4) (H : C.Ok) (hD : D.ty = lnk.tWg) (hW : D.Wg = W) (hfin : ∀ σ v k, C.nb ≤ k → C.Got i k σ v → D.fin i σ v) {k : Nat} (_hki : k % C.n = i) (hk : C.nb ≤ k) :
    ∃ r, ∀ σ a v, Models 26 (C.env q0 k) a → C.Kn v → v.cell? p0 = some (.pointer (some ⟨W, 0, none⟩)) → C.Got i k σ v →
      Go3 Try.prog false (WkStop Try.prog D i r σ) (G ((base 46).at a [.code L46, .inLoop L46, .inBlock 0]) (csW p0 p1 cap opsG)) v := by
    refine ⟨0, fun σ a v ha hK hp0 hg => ?_⟩
    refine Go3.ctl (g' := G ((base 46).at a [.code H46, .code (.seq (.block 1 R46) T46), .inLoop L46, .inBlock 0]) (csW p0 p1 cap opsG)) rfl (fun _ => stepG_seq) ?_
    refine (head46 H hK a v ha (Hp.refl v)) false _ _ _ _ (by decide) ?_
    rintro e a1 w1 ⟨h1, h2, ⟨rfl, h3⟩ | ⟨rfl, h3⟩⟩
    · omega
    refine ⟨[], rfl, ?_⟩
    refine .ctl rfl (fun _ => stepG_end) ?_
    refine go_leave0 rfl h1.defers Try.func46 rfl ?_
    rw [hG]
    obtain ⟨gA, g1, g2, g3⟩ := tail W p0 p1 46 cap (.tuple #[]) opsG
    exact g1 _ w1 ((h2.cell (World.block_lt_of_cell hp0)).trans hp0) fun v1 hx => ⟨g2, hfin σ v1 k h3 ((hg.below h2).below hx), g3 D hD hW⟩
theorem rounds46 (hG : (opsG[1]?).bind (·.dst) = some 4) (H : C.Ok) (hi : i < C.n) (hD : D.ty = lnk.tWg) (hW : D.Wg = W) (hown : ∀ j, j < C.nb → j % C.n = i → D.own i ⟨C.bA, j, none⟩ ∧ D.own i ⟨C.bB, j, none⟩) (hfin : ∀ σ v k, C.nb ≤ k → C.Got i k σ v → D.fin i σ v) :
    ∀ (d k : Nat), C.nb - k ≤ d → k % C.n = i → ∃ r, ∀ σ a v, Models 26 (C.env q0 k) a → C.Kn v → v.cell? p0 = some (.pointer (some ⟨W, 0, none⟩)) → C.Got i k σ v →
      Go3 Try.prog false (WkStop Try.prog D i r σ) (G ((base 46).at a [.code L46, .inLoop L46, .inBlock 0]) (csW p0 p1 cap opsG)) v := by
  intro d
  induction d with
  | zero => exact fun k hd hki => exit46 hG H hD hW hfin hki (by omega)
  | succ d ih =>
    intro k hd hki
    by_cases hk : k < C.nb
    case neg => exact exit46 hG H hD hW hfin hki (by omega)
    obtain ⟨r, ih⟩ := ih (k + C.n) (by have := H.hn; omega) (by rw [Nat.add_mod_right, hki])
    refine ⟨r + 2, fun σ a v ha hK hp0 hg => ?_⟩
    refine Go3.ctl (g' := G ((base 46).at a [.code H46, .code (.seq (.block 1 R46) T46), .inLoop L46, .inBlock 0]) (csW p0 p1 cap opsG)) rfl (fun _ => stepG_seq) ?_
    refine (head46 H hK a v ha (Hp.refl v)) false _ _ _ _ (by decide) ?_
    rintro e a1 w1 ⟨h1, h2, ⟨rfl, _⟩ | ⟨rfl, h3⟩⟩
    case inr => omega
    refine .ctl rfl (fun _ => stepG_seq) ?_
    refine .ctl rfl (fun _ => stepG_block) ?_
    refine go_draw (ops := ops46) (id := 3) mixed fun w2 hx2 t => ?_
    have hb2 : Below v.heap.size v w2 := h2.trans (hx2.mono h2.size)
    have e : Region.linearise .any ops46 t = Region.linearise.go .any ops46 (2 + 1 + 11) t (Array.replicate 14 false) [] := by unfold Region.linearise; rw [sz46]
    rw [e]
    have hm := mid46 H hK hk h1 hb2
    rw [szh46] at hm
    have hQ : ∀ (a : Act) (w w1 : World), Ext w w1 → ((Exit.normal = .normal) ∧ ∃ x1 x2, Models 26 (C.mid q0 k x1 x2) a ∧ Hp v [C.eB k x2, C.eA k x1] w) → ((Exit.normal = .normal) ∧ ∃ x1 x2, Models 26 (C.mid q0 k x1 x2) a ∧ Hp v [C.eB k x2, C.eA k x1] w1) := by
      rintro a w w1 hx ⟨g1, x1, x2, g2, g3⟩
      exact ⟨g1, x1, x2, g2, g3.ext hx⟩
    refine go_late (R := 2) (fun _ => false) (by rw [szh46, sz46]; decide) hop46 (by kernel_rfl) (by kernel_rfl) ⟨11, by rw [szh46]; decide, by rw [sz46]; decide, rfl⟩ hng46 (fr_all (by kernel_rfl)) (by decide) (fun fuel t listed listed' a3 w3 i9 hl hi9 hmem hw => ?_) 11 t _ (Array.replicate 11 false) a1 w2 ⟨by rw [sz46]; simp, by rw [szh46]; simp, fun j hj => ?_, fun j _ _ => ?_⟩ hm
    case refine_2 => rw [szh46] at hj; rw [rep_getD, rep_getD]
    case refine_3 => exact rep_getD
    rw [szh46] at hi9
    obtain ⟨u1, _, u3, u4⟩ := up46 hl hi9 hmem
    obtain rfl : i9 = 11 := by
      apply Classical.byContradiction
      intro hn
      have := u4 11 (by omega) (by omega)
      cases this
    have hs39 : ∀ j, j < 11 → j ≠ 3 → j ≠ 9 → listed'.getD j false = true := fun j h1 h2 h3 => u3 j h1 (fun _ => ⟨h2, h3⟩)
    have hsz : listed'.size = 11 := hl.s'.trans szh46
    have hf := frame46 hQ fuel listed' a3 w3 w3 hsz hs39 (fun _ _ _ => rfl) (Ext.refl _) hw
    obtain ⟨a4, ⟨_, x1, x2, m1, m2⟩, agr⟩ := finish46 fuel listed' a3 w3 hsz hs39 hf
    have e24 : a3.eval (.tmp 24) = .pointer (some ⟨C.bA, k, none⟩) := by
      obtain ⟨v', g1, g2⟩ := m1.get 24 _ rfl
      rw [agr 24 (by decide) (by decide)] at g1
      simp [Act.eval, g1, cn_pointer g2]
    have e22 : a3.eval (.tmp 22) = .slice (some ⟨x1, 0, none⟩) (C.N * C.N) (C.N * C.N) := by
      obtain ⟨v', g1, g2⟩ := m1.get 22 _ rfl
      rw [agr 22 (by decide) (by decide)] at g1
      simp [Act.eval, g1, cn_slice g2]
    refine .stop fun v4 hx4 => ⟨rfl, ⟨C.bA, k, none⟩, .slice (some ⟨x1, 0, none⟩) (C.N * C.N) (C.N * C.N), _, ⟨(hown k hk hki).1, fun p hp e => ?_, fun w z hc hz => store_slice rfl rfl (by decide) rfl fbS szS rfl e24 e22 loud46 w z hc hz⟩, ?_⟩
    · obtain ⟨j, j1, j2 | j2⟩ := hg.key p hp
      · have := congrArg Addr.off (j2.symm.trans e); dsimp only at this; omega
      · exact H.hAB (congrArg Addr.block (j2.symm.trans e)).symm
    have hls := hl.s
    rw [sz46] at hls
    rw [show 2 + fuel = 1 + 1 + fuel by omega]
    refine go_late (R := 1) (fun j => decide (j = 11)) (by rw [szh46, sz46]; decide) hop46 (by kernel_rfl) (by kernel_rfl) ⟨12, by rw [szh46]; decide, by rw [sz46]; decide, rfl⟩ hng46 (fr_all (by kernel_rfl)) (by decide) (fun fuel2 t2 listed2 listed2' a5 w5 i9 hl2 hi9 hmem2 hw2 => ?_) fuel t _ listed' a3 v4 ⟨by rw [sz46]; simpa using hls, hl.s', fun j hj => ?_, fun j hj1 hj2 => ?_⟩ (frame46 hQ fuel listed' a3 w3 v4 hsz hs39 (fun _ _ _ => rfl) hx4 hw)
    case refine_2 =>
      rw [szh46] at hj
      rw [getD_set (by omega), if_neg (by omega)]
      exact hl.head j (by rw [szh46]; exact hj)
    case refine_3 =>
      rw [szh46] at hj1
      rw [sz46] at hj2
      rw [getD_set (by omega)]
      by_cases hj : j = 11
      · rw [if_pos hj.symm]; simp [hj]
      · rw [if_neg (fun h => hj h.symm), decide_eq_false hj]
        exact hl.tail j (by rw [szh46]; exact hj1) (by rw [sz46]; exact hj2)
    rw [szh46] at hi9
    obtain ⟨u1, u2, u3, u4⟩ := up46 hl2 hi9 hmem2
    have hi11 : i9 ≠ 11 := of_decide_eq_false u2
    obtain rfl : i9 = 12 := by
      apply Classical.byContradiction
      intro hn
      have := of_decide_eq_true (u4 12 (by omega) (by omega))
      omega
    have hr : Region.ready .any hd46.toArray listed2' = [] := by
      apply List.eq_nil_iff_forall_not_mem.2
      intro j hj
      obtain ⟨g1, o, g2, _⟩ := mem_ready.1 hj
      have hlt := (Array.getElem?_eq_some_iff.1 g2).1
      rw [szh46] at hlt
      have := u3 j hlt (by omega)
      rw [getDb g1] at this
      cases this
    have hq : (Exit.normal = .normal ∧ ∃ x1 x2, Models 26 (C.mid q0 k x1 x2) a5 ∧ Hp v [C.eB k x2, C.eA k x1] w5) ∧ Agr a3 a5 := by
      cases fuel2 with
      | zero => exact hw2.2
      | succ f => exact hw2.1 hr
    obtain ⟨⟨_, y1, y2, n1, n2⟩, agr2⟩ := hq
    obtain rfl : y1 = x1 := by
      obtain ⟨v', g1, g2⟩ := n1.get 22 _ rfl
      rw [agr2 22 (by decide) (by decide)] at g1
      have : a3.eval (.tmp 22) = .slice (some ⟨y1, 0, none⟩) (C.N * C.N) (C.N * C.N) := by simp [Act.eval, g1, cn_slice g2]
      rw [e22] at this
      simpa using this.symm
    have hL : listed2.setIfInBounds 12 true = Array.replicate 13 true ++ #[false] := by
      have hs2 := hl2.s
      rw [sz46] at hs2
      apply Array.ext
      · simp [hs2]
      intro j hj1 hj2
      have hj14 : j < 14 := by simpa [hs2] using hj1
      have key : (listed2.setIfInBounds 12 true).getD j false = if j < 13 then true else false := by
        rw [getD_set (by omega)]
        by_cases h12 : j = 12
        · simp [h12]
        rw [if_neg (fun h => h12 h.symm)]
        by_cases h11 : j < 11
        · rw [hl2.head j (by rw [szh46]; exact h11), u3 j h11 (by omega), if_pos (by omega)]
        · rw [hl2.tail j (by rw [szh46]; omega) (by rw [sz46]; exact hj14)]
          by_cases h13 : j = 11
          · simp [h13]
          · rw [decide_eq_false h13, if_neg (by omega)]
      have k2 : ∀ j, j < 14 → (Array.replicate 13 true ++ #[false]).getD j false = if j < 13 then true else false := by decide
      have := key.trans (k2 j hj14).symm
      rw [Array.getD_eq_getD_getElem?, Array.getD_eq_getD_getElem?, Array.getElem?_eq_getElem hj1, Array.getElem?_eq_getElem hj2] at this
      exact this
    rw [hL, show 1 + fuel2 = fuel2 + 1 by omega, lin_one (i := 13) (by kernel_rfl), lin_none (by kernel_rfl)]
    refine go_op (i := 12) (Q := fun _ _ _ => False) (K := fun a6 w6 => Models 26 ((25, .pointer (some ⟨C.bB, k, none⟩)) :: C.mid q0 k y1 y2) a6 ∧ Hp v [C.eB k y2, C.eA k y1] w6) rfl (frop_of (by kernel_rfl) _ fun _ => rfl) (by decide) (fun w6 hx6 => ?_) fun a6 w6 h6 => ?_
    · rw [if_pos (show Region.wanted _ _ = true from rfl)]
      unfold OperWq
      exact (yq_idxB (O := [C.eB k y2, C.eA k y1]) (w0 := v) (E := C.mid q0 k y1 y2) (k := k) rfl Try.underlying22 sz23 rfl rfl rfl hk a5.eval w6 (n1.ev _) (n2.ext hx6)).upon fun v' w' hv => ⟨n1.put (by decide) hv.1, (n2.ext hx6).ext hv.2⟩
    obtain ⟨n6, n7⟩ := h6
    have e25 : a6.eval (.tmp 25) = .pointer (some ⟨C.bB, k, none⟩) := by
      obtain ⟨v', g1, g2⟩ := n6.get 25 _ rfl
      simp [Act.eval, g1, cn_pointer g2]
    have e23 : a6.eval (.tmp 23) = .slice (some ⟨y2, 0, none⟩) C.N C.N := by
      obtain ⟨v', g1, g2⟩ := n6.get 23 _ rfl
      simp [Act.eval, g1, cn_slice g2]
    refine .stop fun v7 hx7 => ⟨rfl, ⟨C.bB, k, none⟩, .slice (some ⟨y2, 0, none⟩) C.N C.N, _, ⟨(hown k hk hki).2, fun p hp e => ?_, fun w z hc hz => store_slice rfl rfl (by decide) rfl fbS szS rfl e25 e23 loud46 w z hc hz⟩, ?_⟩
    · rcases List.mem_cons.1 hp with rfl | hp
      · exact H.hAB (congrArg Addr.block e)
      obtain ⟨j, j1, j2 | j2⟩ := hg.key p hp
      · exact H.hAB (congrArg Addr.block (j2.symm.trans e))
      · have := congrArg Addr.off (j2.symm.trans e); dsimp only at this; omega
    have n8 := n7.ext hx7
    refine .ctl rfl (fun _ => stepG_region_end) ?_
    refine .ctl rfl (fun _ => stepG_inBlock) ?_
    refine (tail46 (q0 := q0) H (hK.below n8.below) hk a6 v7 (n6.mono (Cov.get (.cons rfl (.cons rfl (.cons rfl (.cons rfl (.cons rfl (.cons rfl .nil)))))))) (Hp.refl v7)) false _ _ _ _ (by decide) ?_
    rintro e a8 w8 ⟨rfl, m8, b8⟩
    refine .ctl rfl (fun _ => stepG_inLoop) ?_
    have b9 : Below v.heap.size v w8 := n8.below.trans (b8.mono n8.below.size)
    refine ih _ a8 w8 m8 (hK.below b9) ((b9.cell (World.block_lt_of_cell hp0)).trans hp0) ⟨fun j h1 h2 h3 => ?_, fun p hp => ?_⟩
    · by_cases hjk : j < k
      · obtain ⟨z1, z2, g1, g2, g3, g4⟩ := hg.got j hjk h2 h3
        exact ⟨z1, z2, List.mem_cons_of_mem _ (List.mem_cons_of_mem _ g1), List.mem_cons_of_mem _ (List.mem_cons_of_mem _ g2), g3.of_below b9, g4.of_below b9⟩
      · obtain rfl : j = k := by
          apply Classical.byContradiction
          intro hne
          have hn := H.hn
          have hmod : (j - k) % C.n = 0 := Nat.sub_mod_eq_zero_of_mod_eq (h3.trans hki.symm)
          rw [Nat.mod_eq_of_lt (by omega)] at hmod
          omega
        exact ⟨y1, y2, List.mem_cons_of_mem _ List.mem_cons_self, List.mem_cons_self, ((n8.ents _ (List.mem_cons_of_mem _ List.mem_cons_self)).of_below b8).zero, ((n8.ents _ List.mem_cons_self).of_below b8).zero⟩
    · rcases List.mem_cons.1 hp with rfl | hp
      · exact ⟨k, by have := H.hn; omega, .inr rfl⟩
      rcases List.mem_cons.1 hp with rfl | hp
      · exact ⟨k, by have := H.hn; omega, .inl rfl⟩
      · obtain ⟨j, j1, j2⟩ := hg.key p hp
        exact ⟨j, by omega, j2⟩
end
end Go.Proofs.Ytgeflnjjppgooaa.Q


namespace Go.Proofs.Ytgeflnjjppgooaa.Q
open Go Go.Conc Go.RowKit Go.Proofs.Ytgeflnjjppgooaa.Y Go.Conc.Lib Go.ConcR.Gen Go.ConcN.Gen
attribute [-instance] phC
attribute [local instance] noPh
set_option maxRecDepth 20000
set_option linter.unusedSimpArgs false
set_option linter.unusedVariables false

abbrev WC.caps (C : WC) (q0 : Nat) : Array Value := #[.pointer (some ⟨q0, 0, none⟩), .pointer (some ⟨C.q1, 0, none⟩), .pointer (some ⟨C.q2, 0, none⟩), .pointer (some ⟨C.q3, 0, none⟩), .pointer (some ⟨C.q4, 0, none⟩)]
abbrev WC.fnv (C : WC) (q0 : Nat) : Value := fnV 46 (C.caps q0)
abbrev goD (p0 p1 : Addr) : Deferred := dV 73 #[.pointer (some p0), .pointer (some p1)]

theorem works {C : WC} {D : Sc} {i W q0 : Nat} {p0 p1 : Addr} {v : World} (H : C.Ok) (hi : i < C.n) (hD : D.ty = lnk.tWg) (hW : D.Wg = W) (hown : ∀ j, j < C.nb → j % C.n = i → D.own i ⟨C.bA, j, none⟩ ∧ D.own i ⟨C.bB, j, none⟩) (hfin : ∀ σ v k, C.nb ≤ k → C.Got i k σ v → D.fin i σ v)
    (hK : C.Kn v) (h0 : Cl v (some ⟨q0, 0, none⟩) [.int .i64 (i : Int)]) (hp0 : v.cell? p0 = some (.pointer (some ⟨W, 0, none⟩))) (hp1 : v.cell? p1 = some (C.fnv q0)) :
    ∃ r, Work Try.prog D i r [] (born Try.prog (goD p0 p1)) v := by
  obtain ⟨r, hr⟩ := rounds46 (p0 := p0) (p1 := p1) (q0 := q0) (cap := C.caps q0) (opsG := match Try.f73.body with | some (.seq _ (.region _ o _)) => o | _ => #[]) rfl H hi hD hW hown hfin (C.nb - i) i (Nat.le_refl _) (Nat.mod_eq_of_lt hi)
  refine ⟨r, ?_⟩
  unfold Work
  refine .ctl rfl (fun _ => born_in Try.func73 (by kernel_rfl) rfl _) ?_
  rw [show Try.f73.ntmps = 5 from rfl]
  walk_nrm
  refine .ctl rfl (fun _ => stepG_seq) ?_
  refine .ctl rfl (fun _ => stepG_region) ?_
  refine go_const (fnV 74 #[.pointer (some p0)]) rfl rfl (by decide) (fun _ => by simp [execOp, Instr.makeFunc, Act.eval]) (fun _ => by simp [execOp, Instr.makeFunc, Act.eval]) ?_
  walk_nrm
  refine .ctl rfl (fun _ => defer_step rfl rfl (by decide) rfl rfl) ?_
  refine .ctl rfl (fun _ => stepG_region_end) ?_
  refine .ctl rfl (fun _ => stepG_region) ?_
  refine go_pure (C.fnv q0) rfl rfl (by decide) (frop_of (by kernel_rfl) _ fun _ => rfl) (fun v1 hx => ?_) ?_
  · have h9 := (hx.cell (World.block_lt_of_cell hp1)).trans hp1
    simp [execOp, Instr.loadAt, Instr.sureAddr, loadVar, Act.eval, Act.put, Try.isAgg1, h9]
  refine go_in (C.caps q0) Try.func46 body46 rfl rfl (by decide) (VEv.fr ⟨.tmp 3, #[], #[], 46, #[], C.caps q0, Try.f46, rfl, rfl, Try.func46, by kernel_rfl⟩) (fun v1 hx => ?_) ?_
  · simp [execOp, resolve, Deferred.ofValue, invoke, callFunc, Act.eval, Act.put, Try.func46, Try.f46]
  refine .ctl rfl (fun _ => stepG_seq) ?_
  have hm : Models 26 (argsFrom 0 [.pointer (some (adr (some ⟨q0, 0, none⟩) 0)), .pointer (some (adr (some ⟨C.q1, 0, none⟩) 0)), .pointer (some (adr (some ⟨C.q2, 0, none⟩) 0)), .pointer (some (adr (some ⟨C.q3, 0, none⟩) 0)), .pointer (some (adr (some ⟨C.q4, 0, none⟩) 0))]) { tmps := C.caps q0 ++ Array.replicate (26 - (C.caps q0).size) undef, defers := [] } := models_args rfl (Nat.le_of_ble_eq_true rfl)
  have hV : V Try.prog 26 v [] (argsFrom 0 [.pointer (some (adr (some ⟨q0, 0, none⟩) 0)), .pointer (some (adr (some ⟨C.q1, 0, none⟩) 0)), .pointer (some (adr (some ⟨C.q2, 0, none⟩) 0)), .pointer (some (adr (some ⟨C.q3, 0, none⟩) 0)), .pointer (some (adr (some ⟨C.q4, 0, none⟩) 0))])
      (match Try.f46.body with | some (.seq x _) => x | _ => .skip) (fun e a' w' => e = .normal ∧ Models 26 (C.env q0 i) a' ∧ Below v.heap.size v w') := by
    refine V.region ?_
    refine VL.q (.inl rfl) rfl (by decide) (yq_load rfl fb3 rfl (Sees.root h0) rfl) ?_
    refine VL.r (.inl rfl) rfl (by decide) (yr_assign rfl rfl) ?_
    refine VL.nil fun a' w' ha hw => ⟨rfl, ha.mono (Cov.get (.cons rfl (.cons rfl (.cons rfl (.cons rfl (.cons rfl (.cons rfl .nil))))))), hw.below⟩
  refine (hV _ v hm (Hp.refl v)) false _ _ _ _ (by decide) ?_
  rintro e a1 w1 ⟨rfl, h1, h2⟩
  refine .ctl rfl (fun _ => stepG_block) ?_
  refine .ctl rfl (fun _ => stepG_loop) ?_
  exact hr [] a1 w1 h1 (hK.below h2) ((h2.cell (World.block_lt_of_cell hp0)).trans hp0) ⟨fun j h1 h2 h3 => by rw [Nat.mod_eq_of_lt (by omega)] at h3; omega, fun p hp => by cases hp⟩
end Go.Proofs.Ytgeflnjjppgooaa.Q


namespace Go.Proofs.Ytgeflnjjppgooaa.Y
open Go Go.Conc Go.ConcN Go.RowKit Go.Conc.Lib Go.ConcR.Gen Go.ConcN.Gen
open Go.ConcR (KK wgBlock WgAt stA smA rd wr mk DC0)
set_option linter.unusedVariables false
set_option linter.unusedSimpArgs false
variable {L : WgLink} {P : Program} {Wg : Nat} {After : Goroutine → Prop} {b₀ : Frame} {a₀ : Act} {ops₀ : Array Oper} {i₀ : Nat} {rest₀ : List Nat} {k₀ : List Item} {cs : List Frame}
theorem rlx {ty : TypeId} {w w₁ : World} (h : WgLive ty Wg w) (r : RL ty Wg w w₁) : WgLive ty Wg w₁ := r h
/-- A step that is the same in every world may be taken ahead of what is asked. -/
def Early (P : Program) (After : Goroutine → Prop) : Prop := ∀ g g' : Goroutine, g.status = .running → (∀ w, stepG P true g w = .go g' w) → After g' → After g
theorem aft_value {b : Frame} {a : Act} {k : List Item} (hA : Early P After) {ops : Array Oper} {i : Nat} {rest : List Nat} {o : Oper} (v : Value) (ho : ops[i]? = some o) (hw : Region.wanted o (yielded ops a.tmps) = true) (hk : b.kind ≠ .early)
    (hr : ∀ w, (execOp a.eval o).run P w = .ok (.value v) w) (he : ∀ w, (execOp a.eval o).events P w #[] = #[]) (h : After (G (b.at (a.put o.dst v) (.inRegion ops rest :: k)) cs)) : After (G (b.at a (.inRegion ops (i :: rest) :: k)) cs) :=
  hA _ _ rfl (fun w => by rw [stepG_value ho hw hk (hr w)]; unfold listed; rw [he w, seen_none]) h
set_option maxRecDepth 100000 in
set_option maxHeartbeats 8000000 in
/-- Add(1), in whatever company. -/
theorem addM (H : WgLib P L) (hA : Early P After) (hT : After (G (b₀.at (a₀.put ((ops₀[i₀]?).bind (·.dst)) (.tuple #[])) (.inRegion ops₀ rest₀ :: k₀)) cs)) :
    LAdd P L.tWg Wg After (G ((base L.add).at ⟨#[.pointer (some ⟨Wg, 0, none⟩), .int .i64 1, undef, undef, undef, undef, undef, undef, undef, undef, undef, undef, undef, undef, undef, undef, undef, undef, undef, undef, undef, undef, undef, undef, undef, undef, undef, undef, undef, undef, undef, undef, undef, undef, undef, undef, undef, undef, undef, undef, undef, undef, undef, undef, undef, undef, undef, undef, undef, undef, undef, undef, undef, undef, undef, undef, undef, undef, undef, undef, undef, undef, undef, undef, undef, undef, undef, undef, undef, undef, undef, undef, undef, undef, undef, undef, undef, undef, undef, undef, undef, undef, undef, undef, undef, undef, undef, undef, undef, undef, undef, undef, undef, undef, undef, undef, undef, undef, undef, undef, undef, undef, undef, undef, undef, undef, undef, undef, undef, undef, undef, undef, undef, undef, undef, undef, undef], []⟩ [.code (body_add L)]) (b₀.at a₀ (.inRegion ops₀ (i₀ :: rest₀) :: k₀) :: cs)) := by
  intro w hF
  refine ⟨12, ?_⟩
  lib_facts
  simp only [body_add, addFn, Option.getD_some]
  u_c stepG_seq rlx hF
  u_cnd true rlx hF
  u_c stepG_seq rlx hF
  u_c stepG_seq rlx hF
  u_reg rlx hF
  u_op rlx hF
  u_op rlx hF
  u_c stepG_region_end rlx hF
  u_cnd false rlx hF
  u_c stepG_skip rlx hF
  u_c stepG_seq rlx hF
  u_reg rlx hF
  refine Goes.stop (fun w1 h1 => ?_)
  replace hF := rlx hF h1
  clear h1
  refine ⟨rfl, _, stepG_mark0 .disable (by simp) rfl rfl (by k_ne) rfl H.f_disable (x_disable_n L) (x_disable_b L) (x_disable_x L) (x_disable_f L), 40, ?_⟩
  walk_nrm
  u_c stepG_region_end rlx hF
  u_reg rlx hF
  u_defer rlx hF
  u_c stepG_region_end rlx hF
  u_c stepG_seq rlx hF
  u_reg rlx hF
  u_op rlx hF
  u_c stepG_region_end rlx hF
  u_c stepG_seq rlx hF
  u_c stepG_seq rlx hF
  u_reg rlx hF
  u_bub rlx hF
  u_c stepG_region_end rlx hF
  u_cnd false rlx hF
  u_c stepG_skip rlx hF
  u_c stepG_seq rlx hF
  u_reg rlx hF
  u_op rlx hF
  u_op rlx hF
  u_op rlx hF
  u_op rlx hF
  u_op rlx hF
  u_op rlx hF
  u_call H.f_uAdd (nm_uAdd L) uAddFn rlx hF
  u_c stepG_seq rlx hF
  u_reg rlx hF
  u_op rlx hF
  u_c stepG_region_end rlx hF
  u_c stepG_seq rlx hF
  u_reg rlx hF
  u_op rlx hF
  u_op rlx hF
  u_op rlx hF
  u_op rlx hF
  refine Goes.stop (fun w₂ h₂ => ?_)
  replace hF := rlx hF h₂
  clear h₂
  refine ⟨rfl, fun v hv hw => ?_⟩
  rcases Nat.eq_zero_or_pos v with rfl | hvp
  · replace hw : WgAt L.tWg Wg w₂ 0 0 := by simpa using hw
    have z : (((0 : Nat) : Int) + 1) * KK = KK := by simp
    rw [z]
    have e0 : IntKind.u64.wrap (0 + 4294967296) = KK := by decide
    refine ⟨_, (stepG_add_atomic rfl rfl (by k_ne) rfl H.f_addU64 (x_addU64_n L) (x_addU64_b L) (x_addU64_x L) .u64 (x_addU64_f L) rfl rfl hw.cellSt (hw.thaw 0)).trans (by rw [e0]; rfl), fun _ => ⟨60, ?_⟩, fun h => absurd rfl h⟩
    replace hF : WgLive L.tWg Wg (w₂.setCell (stA Wg) (.int .u64 KK)) := ⟨_, _, hw.setSt _⟩
    clear hw
    simp only [KK] at hF ⊢
    walk_nrm
    u_op rlx hF
    u_c stepG_region_end rlx hF
    u_c stepG_ret' rlx hF
    u_leave1 H.f_uAdd rlx hF
    u_op rlx hF
    u_c stepG_region_end rlx hF
    u_c stepG_seq rlx hF
    u_c stepG_seq rlx hF
    u_reg rlx hF
    u_op rlx hF
    u_op rlx hF
    u_op rlx hF
    u_op rlx hF
    u_skip rlx hF
    u_skip rlx hF
    u_op rlx hF
    u_c stepG_region_end rlx hF
    u_cnd false rlx hF
    u_c stepG_skip rlx hF
    u_c stepG_seq rlx hF
    u_reg rlx hF
    u_op rlx hF
    u_op rlx hF
    u_op rlx hF
    u_op rlx hF
    u_c stepG_region_end rlx hF
    u_c stepG_seq rlx hF
    u_reg rlx hF
    u_op rlx hF
    u_op rlx hF
    u_op rlx hF
    u_op rlx hF
    u_c stepG_region_end rlx hF
    u_c stepG_seq rlx hF
    u_c stepG_seq rlx hF
    u_reg rlx hF
    u_op rlx hF
    u_op rlx hF
    u_op rlx hF
    u_op rlx hF
    u_op rlx hF
    u_op rlx hF
    u_op rlx hF
    u_op rlx hF
    u_op rlx hF
    u_op rlx hF
    u_c stepG_region_end rlx hF
    u_cnd true rlx hF
    u_reg rlx hF
    u_op rlx hF
    u_op rlx hF
    u_op rlx hF
    u_conv H.underlying_tPU32 H.room_tU32 (WgLive.cell1 hF).choose_spec rlx hF
    refine Goes.stop (fun w3 h3 => ?_)
    replace hF := rlx hF h3
    clear h3
    refine ⟨rfl, _, stepG_markAt .read (by simp) rfl rfl (by k_ne) rfl H.f_raceRead (x_raceRead_n L) (x_raceRead_b L) (x_raceRead_x L) (x_raceRead_f L) (ad := ⟨Wg, 1, none⟩) (by simp [Act.eval]), 60, ?_⟩
    walk_nrm
    u_c stepG_region_end rlx hF
    u_c stepG_seq rlx hF
    u_c stepG_seq rlx hF
    u_reg rlx hF
    u_op rlx hF
    u_op rlx hF
    u_c stepG_region_end rlx hF
    u_cnd false rlx hF
    u_c stepG_skip rlx hF
    u_c stepG_seq rlx hF
    u_c stepG_seq rlx hF
    u_reg rlx hF
    u_op rlx hF
    u_op rlx hF
    u_op rlx hF
    u_skip rlx hF
    u_skip rlx hF
    u_op rlx hF
    u_op rlx hF
    u_skip rlx hF
    u_skip rlx hF
    u_skip rlx hF
    u_skip rlx hF
    u_op rlx hF
    u_c stepG_region_end rlx hF
    u_cnd false rlx hF
    u_c stepG_skip rlx hF
    u_c stepG_seq rlx hF
    u_c stepG_seq rlx hF
    u_reg rlx hF
    u_op rlx hF
    u_op rlx hF
    u_op rlx hF
    u_skip rlx hF
    u_skip rlx hF
    u_op rlx hF
    u_c stepG_region_end rlx hF
    u_cnd true rlx hF
    u_c stepG_ret' rlx hF
    refine Goes.stop (fun w4 h4 => ?_)
    replace hF := rlx hF h4
    clear h4
    refine ⟨rfl, _, stepG_unwind_entry (v := .tuple #[]) (evs := #[mk .enable]) rfl H.f_enable (x_enable_n L) (x_enable_b L) (x_enable_x L) (x_enable_f L) (by simp [Extern.Race.none_]) (by simp [mk]) (by simp [mk]), ?_⟩
    exact hA _ _ rfl (fun w => by rw [stepG_leave rfl rfl H.f_add (results_none rfl _ P w) (events_results_none rfl _ _), Frame.finish_at]) hT
  · obtain ⟨V, hV⟩ : ∃ V : Int, V = (v : Int) + 1 := ⟨_, rfl⟩
    obtain ⟨S, hS⟩ : ∃ S : Int, S = V * KK := ⟨_, rfl⟩
    have eS : IntKind.u64.wrap ((v : Int) * KK + 4294967296) = S := by rw [IntKind.wrap_u64, hS, hV]; simp only [KK]; omega
    rw [← hV, ← hS]
    have a1 : S / 4294967296 = V := by rw [hS]; simp only [KK]; omega
    have b1 : bits .and .u64 S 2147483648 = 0 := by rw [hS, hV]; have := st_flag (v + 1) 0 (by omega) (by omega); simpa [KK] using this
    have b2 : bits .and .u64 S 2147483647 = 0 := by rw [hS, hV]; have := st_waiters (v + 1) 0 (by omega) (by omega); simpa [KK] using this
    have c1 : IntKind.i32.wrap V = V := by rw [IntKind.wrap_i32]; omega
    have hV1 : 1 < V := by omega
    have hV2 : V < 2147483648 := by omega
    have q1 : (V == 1) = false := by simp; omega
    have q2 : decide (V = 1) = false := decide_eq_false (by omega)
    have q3 : decide (V < 0) = false := decide_eq_false (by omega)
    have q4 : decide (0 < V) = true := decide_eq_true (by omega)
    have q5 : (V == 0) = false := by simp; omega
    have q6 : decide (V = 0) = false := decide_eq_false (by omega)
    refine ⟨_, (stepG_add_atomic rfl rfl (by k_ne) rfl H.f_addU64 (x_addU64_n L) (x_addU64_b L) (x_addU64_x L) .u64 (x_addU64_f L) rfl rfl hw.cellSt (hw.thaw 0)).trans (by rw [eS]; rfl), fun h0 => absurd h0 (by omega), fun _ => ⟨110, ?_⟩⟩
    replace hF : WgLive L.tWg Wg (w₂.setCell (stA Wg) (.int .u64 S)) := ⟨_, _, hw.setSt _⟩
    clear hw hS hV eS
    walk_nrm
    u_op rlx hF
    u_c stepG_region_end rlx hF
    u_c stepG_ret' rlx hF
    u_leave1 H.f_uAdd rlx hF
    u_op rlx hF
    u_c stepG_region_end rlx hF
    u_c stepG_seq rlx hF
    u_c stepG_seq rlx hF
    u_reg rlx hF
    u_op rlx hF
    u_op rlx hF
    u_op rlx hF
    u_op rlx hF
    u_skip rlx hF
    u_skip rlx hF
    u_op rlx hF
    u_c stepG_region_end rlx hF
    u_cnd false rlx hF
    u_c stepG_skip rlx hF
    u_c stepG_seq rlx hF
    u_reg rlx hF
    u_op rlx hF
    u_op rlx hF
    u_op rlx hF
    u_op rlx hF
    u_c stepG_region_end rlx hF
    u_c stepG_seq rlx hF
    u_reg rlx hF
    u_op rlx hF
    u_op rlx hF
    u_op rlx hF
    u_op rlx hF
    u_c stepG_region_end rlx hF
    u_c stepG_seq rlx hF
    u_c stepG_seq rlx hF
    u_reg rlx hF
    u_op rlx hF
    u_op rlx hF
    u_op rlx hF
    u_op rlx hF
    u_op rlx hF
    u_op rlx hF
    u_op rlx hF
    u_op rlx hF
    u_op rlx hF
    u_op rlx hF
    u_c stepG_region_end rlx hF
    u_cnd false rlx hF
    u_c stepG_skip rlx hF
    u_c stepG_seq rlx hF
    u_c stepG_seq rlx hF
    u_reg rlx hF
    u_op rlx hF
    u_op rlx hF
    u_c stepG_region_end rlx hF
    u_cnd false rlx hF
    u_c stepG_skip rlx hF
    u_c stepG_seq rlx hF
    u_c stepG_seq rlx hF
    u_reg rlx hF
    u_op rlx hF
    u_op rlx hF
    u_op rlx hF
    u_skip rlx hF
    u_skip rlx hF
    u_op rlx hF
    u_op rlx hF
    u_skip rlx hF
    u_skip rlx hF
    u_skip rlx hF
    u_skip rlx hF
    u_op rlx hF
    u_c stepG_region_end rlx hF
    u_cnd false rlx hF
    u_c stepG_skip rlx hF
    u_c stepG_seq rlx hF
    u_c stepG_seq rlx hF
    u_reg rlx hF
    u_op rlx hF
    u_op rlx hF
    u_op rlx hF
    u_skip rlx hF
    u_skip rlx hF
    u_op rlx hF
    u_c stepG_region_end rlx hF
    u_cnd true rlx hF
    u_c stepG_ret' rlx hF
    refine Goes.stop (fun w4 h4 => ?_)
    replace hF := rlx hF h4
    clear h4
    refine ⟨rfl, _, stepG_unwind_entry (v := .tuple #[]) (evs := #[mk .enable]) rfl H.f_enable (x_enable_n L) (x_enable_b L) (x_enable_x L) (x_enable_f L) (by simp [Extern.Race.none_]) (by simp [mk]) (by simp [mk]), ?_⟩
    exact hA _ _ rfl (fun w => by rw [stepG_leave rfl rfl H.f_add (results_none rfl _ P w) (events_results_none rfl _ _), Frame.finish_at]) hT
/-- At the head of Wait's loop. -/
def AnchM (L : WgLink) (Wg : Nat) (c : Frame) (cs : List Frame) (g : Goroutine) (w : World) : Prop :=
  ∃ T : Array Value, g = G ((base L.wait).at ⟨T, []⟩ [.code (L7 L), .inLoop (L7 L), .inBlock 0]) (c :: cs) ∧ T.size = 84 ∧ T[0]? = some (.pointer (some ⟨Wg, 0, none⟩)) ∧ WgLive L.tWg Wg w
set_option maxRecDepth 100000 in
set_option maxHeartbeats 8000000 in
theorem waitRoundM (H : WgLib P L) (hA : Early P After) (hT : After (G (b₀.at (a₀.put ((ops₀[i₀]?).bind (·.dst)) (.tuple #[])) (.inRegion ops₀ rest₀ :: k₀)) cs)) (g : Goroutine) (w : World) (h : AnchM L Wg (b₀.at a₀ (.inRegion ops₀ (i₀ :: rest₀) :: k₀)) cs g w) :
    ∃ m, Goes P true (RL L.tWg Wg) DC0 (LW1 P L.tWg Wg After (AnchM L Wg (b₀.at a₀ (.inRegion ops₀ (i₀ :: rest₀) :: k₀)) cs)) m g w := by
  lib_facts
  obtain ⟨T, rfl, hT84, t0, hF⟩ := h
  obtain ⟨v0, v1, v2, v3, v4, v5, v6, v7, v8, v9, v10, v11, v12, v13, v14, v15, v16, v17, v18, v19, v20, v21, v22, v23, v24, v25, v26, v27, v28, v29, v30, v31, v32, v33, v34, v35, v36, v37, v38, v39, v40, v41, v42, v43, v44, v45, v46, v47, v48, v49, v50, v51, v52, v53, v54, v55, v56, v57, v58, v59, v60, v61, v62, v63, v64, v65, v66, v67, v68, v69, v70, v71, v72, v73, v74, v75, v76, v77, v78, v79, v80, v81, v82, v83, rfl⟩ := array84 T hT84
  simp only [List.getElem?_toArray, List.getElem?_cons_zero, Option.some.injEq] at t0
  subst t0
  refine ⟨30, ?_⟩
  simp only [L7, body_wait, waitFn, Option.getD_some]
  u_c stepG_block rlx hF
  u_c stepG_seq rlx hF
  u_reg rlx hF
  u_op rlx hF
  u_op rlx hF
  u_op rlx hF
  u_call H.f_uLoad (nm_uLoad L) uLoadFn rlx hF
  u_c stepG_seq rlx hF
  u_reg rlx hF
  u_op rlx hF
  u_c stepG_region_end rlx hF
  u_c stepG_seq rlx hF
  u_reg rlx hF
  u_op rlx hF
  u_op rlx hF
  u_op rlx hF
  refine Goes.stop (fun w₁ h₁ => ?_)
  replace hF := rlx hF h₁
  clear h₁
  refine ⟨rfl, fun v hv hw => ?_⟩
  rcases Nat.eq_zero_or_pos v with rfl | hvp
  · replace hw : WgAt L.tWg Wg w₁ 0 0 := by simpa using hw
    refine ⟨_, stepG_load_atomic (v := 0) rfl rfl (by k_ne) rfl H.f_loadU64 (x_loadU64_n L) (x_loadU64_b L) (x_loadU64_x L) .u64 (x_loadU64_f L) rfl hw.cellSt, fun _ => ⟨50, ?_⟩, fun h => absurd rfl h⟩
    clear hw
    walk_nrm
    u_op rlx hF
    u_c stepG_region_end rlx hF
    u_c stepG_ret' rlx hF
    u_leave1 H.f_uLoad rlx hF
    u_op rlx hF
    u_c stepG_region_end rlx hF
    u_c stepG_seq rlx hF
    u_reg rlx hF
    u_op rlx hF
    u_op rlx hF
    u_op rlx hF
    u_op rlx hF
    u_c stepG_region_end rlx hF
    u_c stepG_seq rlx hF
    u_reg rlx hF
    u_op rlx hF
    u_op rlx hF
    u_op rlx hF
    u_op rlx hF
    u_c stepG_region_end rlx hF
    u_c stepG_seq rlx hF
    u_c stepG_seq rlx hF
    u_reg rlx hF
    u_op rlx hF
    u_op rlx hF
    u_c stepG_region_end rlx hF
    u_cnd true rlx hF
    u_c stepG_seq rlx hF
    u_cnd true rlx hF
    u_c stepG_seq rlx hF
    u_reg rlx hF
    refine Goes.stop (fun w5 h5 => ?_)
    replace hF := rlx hF h5
    clear h5
    refine ⟨rfl, _, stepG_mark0 .enable (by simp) rfl rfl (by k_ne) rfl H.f_enable (x_enable_n L) (x_enable_b L) (x_enable_x L) (x_enable_f L), 12, ?_⟩
    walk_nrm
    u_c stepG_region_end rlx hF
    u_reg rlx hF
    u_op rlx hF
    u_conv H.underlying_tWgP H.room_tWg (WgLive.cell0 hF).choose_spec rlx hF
    refine Goes.stop (fun w6 h6 => ?_)
    replace hF := rlx hF h6
    clear h6
    refine ⟨rfl, _, stepG_markAt .acquire (by simp) rfl rfl (by k_ne) rfl H.f_acquire (x_acquire_n L) (x_acquire_b L) (x_acquire_x L) (x_acquire_f L) (by simp [Act.eval, stA]), ?_⟩
    clear hF
    walk_nrm
    refine hA _ _ rfl (fun _ => stepG_region_end) ?_
    refine hA _ _ rfl (fun _ => stepG_seq) ?_
    refine hA _ _ rfl (fun _ => stepG_seq) ?_
    refine hA _ _ rfl (fun _ => stepG_region) ?_
    simp only [List.size_toArray, List.length_cons, List.length_nil, Nat.reduceAdd, Nat.zero_add, List.range, List.range.loop]
    refine aft_value hA (.int .u32 0) rfl rfl (by k_ne) (fun _ => by go_simp; try (first | w_num | decide)) (fun _ => by simp [go_sem, *]) ?_
    walk_nrm
    refine aft_value hA (.bool true) rfl rfl (by k_ne) (fun _ => by go_simp; try (first | w_num | decide)) (fun _ => by simp [go_sem, *]) ?_
    walk_nrm
    refine aft_value hA (.bool true) rfl rfl (by k_ne) (fun _ => by go_simp; try (first | w_num | decide)) (fun _ => by simp [go_sem, *]) ?_
    walk_nrm
    refine aft_value hA (.int .u64 0) rfl rfl (by k_ne) (fun _ => by go_simp; try (first | w_num | decide)) (fun _ => by simp [go_sem, *]) ?_
    walk_nrm
    refine aft_value hA (.int .u64 0) rfl rfl (by k_ne) (fun _ => by go_simp; try (first | w_num | decide)) (fun _ => by simp [go_sem, *]) ?_
    walk_nrm
    refine aft_value hA (.bool false) rfl rfl (by k_ne) (fun _ => by go_simp; try (first | w_num | decide)) (fun _ => by simp [go_sem, *]) ?_
    walk_nrm
    refine aft_value hA (.bool false) rfl rfl (by k_ne) (fun _ => by go_simp; try (first | w_num | decide)) (fun _ => by simp [go_sem, *]) ?_
    walk_nrm
    refine aft_value hA (.bool false) rfl rfl (by k_ne) (fun _ => by go_simp; try (first | w_num | decide)) (fun _ => by simp [go_sem, *]) ?_
    walk_nrm
    refine hA _ _ rfl (fun _ => stepG_unwanted rfl rfl) ?_
    walk_nrm
    refine hA _ _ rfl (fun _ => stepG_unwanted rfl rfl) ?_
    walk_nrm
    refine aft_value hA (.bool false) rfl rfl (by k_ne) (fun _ => by go_simp; try (first | w_num | decide)) (fun _ => by simp [go_sem, *]) ?_
    walk_nrm
    refine hA _ _ rfl (fun _ => stepG_region_end) ?_
    refine hA _ _ rfl (fun _ => stepG_cond (t := false) rfl) ?_
    simp only [if_true, if_false, Bool.false_eq_true, ↓reduceIte]
    refine hA _ _ rfl (fun _ => stepG_skip) ?_
    refine hA _ _ rfl (fun _ => stepG_ret') ?_
    exact hA _ _ rfl (fun w => by rw [stepG_leave rfl rfl H.f_wait (results_none rfl _ P w) (events_results_none rfl _ _), Frame.finish_at]) hT
  · obtain ⟨S, hS⟩ : ∃ S : Int, (v : Int) * KK = S := ⟨_, rfl⟩
    have a1 : S / 4294967296 = (v : Int) := by rw [← hS]; simp only [KK]; omega
    have b1 : bits .and .u64 S 2147483648 = 0 := by rw [← hS]; have := st_flag v 0 (by omega) (by omega); simpa [KK] using this
    have b2 : bits .and .u64 S 2147483647 = 0 := by rw [← hS]; have := st_waiters v 0 (by omega) (by omega); simpa [KK] using this
    have c1 : IntKind.i32.wrap (v : Int) = (v : Int) := by rw [IntKind.wrap_i32]; omega
    have w1 : IntKind.u64.wrap (S + 1) = S + 1 := by rw [IntKind.wrap_u64, ← hS]; simp only [KK]; omega
    have q3 : decide ((v : Int) < 0) = false := decide_eq_false (by omega)
    have q4 : decide (0 < (v : Int)) = true := decide_eq_true (by omega)
    have q5 : ((v : Int) == 0) = false := by simp; omega
    have q6 : decide ((v : Int) = 0) = false := decide_eq_false (by omega)
    rw [hS] at hw
    refine ⟨_, stepG_load_atomic (v := S) rfl rfl (by k_ne) rfl H.f_loadU64 (x_loadU64_n L) (x_loadU64_b L) (x_loadU64_x L) .u64 (x_loadU64_f L) rfl hw.cellSt, fun h0 => absurd h0 (by omega), fun _ => ⟨60, ?_⟩⟩
    clear hw
    walk_nrm
    u_op rlx hF
    u_c stepG_region_end rlx hF
    u_c stepG_ret' rlx hF
    u_leave1 H.f_uLoad rlx hF
    u_op rlx hF
    u_c stepG_region_end rlx hF
    u_c stepG_seq rlx hF
    u_reg rlx hF
    u_op rlx hF
    u_op rlx hF
    u_op rlx hF
    u_op rlx hF
    u_c stepG_region_end rlx hF
    u_c stepG_seq rlx hF
    u_reg rlx hF
    u_op rlx hF
    u_op rlx hF
    u_op rlx hF
    u_op rlx hF
    u_c stepG_region_end rlx hF
    u_c stepG_seq rlx hF
    u_c stepG_seq rlx hF
    u_reg rlx hF
    u_op rlx hF
    u_op rlx hF
    u_c stepG_region_end rlx hF
    u_cnd false rlx hF
    u_c stepG_skip rlx hF
    u_c stepG_seq rlx hF
    u_reg rlx hF
    u_op rlx hF
    u_op rlx hF
    u_op rlx hF
    u_op rlx hF
    u_op rlx hF
    u_op rlx hF
    u_call H.f_uCas (nm_uCas L) uCasFn rlx hF
    u_c stepG_seq rlx hF
    u_reg rlx hF
    u_op rlx hF
    u_c stepG_region_end rlx hF
    u_c stepG_seq rlx hF
    u_reg rlx hF
    u_op rlx hF
    u_op rlx hF
    u_op rlx hF
    u_op rlx hF
    u_op rlx hF
    refine Goes.stop (fun w₂ h₂ => ?_)
    replace hF := rlx hF h₂
    clear h₂
    refine ⟨rfl, fun v' hv' hw => ⟨fun e => ?_, fun e => ?_⟩⟩
    · subst e
      rw [hS] at hw ⊢
      refine ⟨_, (stepG_cas_hit (v := S) (n := S + 1) rfl rfl (by k_ne) rfl H.f_casU64 (x_casU64_n L) (x_casU64_b L) (x_casU64_x L) .u64 (x_casU64_f L) rfl rfl rfl hw.cellSt (hw.thaw 0)).trans (by rfl), 70, 70, ?_⟩
      replace hF : WgLive L.tWg Wg (w₂.setCell (stA Wg) (.int .u64 (S + 1))) := ⟨_, _, hw.setSt _⟩
      clear hw
      walk_nrm
      u_op rlx hF
      u_c stepG_region_end rlx hF
      u_c stepG_ret' rlx hF
      u_leave1 H.f_uCas rlx hF
      u_c stepG_region_end rlx hF
      u_cnd true rlx hF
      u_c stepG_seq rlx hF
      u_c stepG_seq rlx hF
      u_reg rlx hF
      u_op rlx hF
      u_op rlx hF
      u_op rlx hF
      u_op rlx hF
      u_c stepG_region_end rlx hF
      u_cnd true rlx hF
      u_reg rlx hF
      u_op rlx hF
      u_op rlx hF
      u_op rlx hF
      u_conv H.underlying_tPU32 H.room_tU32 (WgLive.cell1 hF).choose_spec rlx hF
      refine Goes.stop (fun w7 h7 => ?_)
      replace hF := rlx hF h7
      clear h7
      refine ⟨rfl, _, stepG_markAt .write (by simp) rfl rfl (by k_ne) rfl H.f_raceWrite (x_raceWrite_n L) (x_raceWrite_b L) (x_raceWrite_x L) (x_raceWrite_f L) (ad := ⟨_, 1, none⟩) (by simp [Act.eval] <;> rfl), ?_⟩
      walk_nrm
      u_c stepG_region_end rlx hF
      u_c stepG_seq rlx hF
      u_reg rlx hF
      u_op rlx hF
      u_c stepG_region_end rlx hF
      u_c stepG_seq rlx hF
      u_c stepG_seq rlx hF
      u_reg rlx hF
      u_op rlx hF
      u_op rlx hF
      u_op rlx hF
      u_op rlx hF
      u_skip rlx hF
      u_op rlx hF
      u_c stepG_region_end rlx hF
      u_cnd false rlx hF
      u_c stepG_skip rlx hF
      u_c stepG_seq rlx hF
      u_reg rlx hF
      u_op rlx hF
      u_op rlx hF
      u_op rlx hF
      u_op rlx hF
      refine Goes.stop (fun w₃ h₃ => ?_)
      replace hF := rlx hF h₃
      clear h₃
      refine ⟨rfl, rfl, fun ⟨st, hw⟩ => stepG_semacquire_wait rfl rfl rfl H.f_semacquire (x_semacquire_n L) (x_semacquire_b L) (x_semacquire_x L) (x_semacquire_f L) (by simp [Act.eval, smA]) hw.cellSm, fun hf => ?_⟩
      refine ⟨_, (stepG_semacquire (n := 1) rfl rfl (by k_ne) rfl H.f_semacquire (x_semacquire_n L) (x_semacquire_b L) (x_semacquire_x L) (x_semacquire_f L) (by simp [Act.eval, smA]) hf.cellSm (by k_ne) (hf.thaw 1)).trans (by rfl), 30, ?_⟩
      replace hF : WgLive L.tWg Wg (w₃.setCell (smA Wg) (.int .u32 0)) := ⟨_, _, hf.setSm 0⟩
      clear hf
      walk_nrm
      u_c stepG_region_end rlx hF
      u_c stepG_seq rlx hF
      u_reg rlx hF
      u_op rlx hF
      u_op rlx hF
      u_op rlx hF
      u_call H.f_uLoad (nm_uLoad L) uLoadFn rlx hF
      u_c stepG_seq rlx hF
      u_reg rlx hF
      u_op rlx hF
      u_c stepG_region_end rlx hF
      u_c stepG_seq rlx hF
      u_reg rlx hF
      u_op rlx hF
      u_op rlx hF
      u_op rlx hF
      refine Goes.stop (fun w₄ h₄ => ?_)
      replace hF := rlx hF h₄
      clear h₄
      refine ⟨rfl, fun hw => ⟨_, stepG_load_atomic (v := 0) rfl rfl (by k_ne) rfl H.f_loadU64 (x_loadU64_n L) (x_loadU64_b L) (x_loadU64_x L) .u64 (x_loadU64_f L) rfl hw.cellSt, 30, ?_⟩⟩
      clear hw
      walk_nrm
      u_op rlx hF
      u_c stepG_region_end rlx hF
      u_c stepG_ret' rlx hF
      u_leave1 H.f_uLoad rlx hF
      u_op rlx hF
      u_op rlx hF
      u_c stepG_region_end rlx hF
      u_c stepG_seq rlx hF
      u_cnd true rlx hF
      u_c stepG_seq rlx hF
      u_reg rlx hF
      refine Goes.stop (fun w5 h5 => ?_)
      replace hF := rlx hF h5
      clear h5
      refine ⟨rfl, _, stepG_mark0 .enable (by simp) rfl rfl (by k_ne) rfl H.f_enable (x_enable_n L) (x_enable_b L) (x_enable_x L) (x_enable_f L), 12, ?_⟩
      walk_nrm
      u_c stepG_region_end rlx hF
      u_reg rlx hF
      u_op rlx hF
      u_conv H.underlying_tWgP H.room_tWg (WgLive.cell0 hF).choose_spec rlx hF
      refine Goes.stop (fun w6 h6 => ?_)
      replace hF := rlx hF h6
      clear h6
      refine ⟨rfl, _, stepG_markAt .acquire (by simp) rfl rfl (by k_ne) rfl H.f_acquire (x_acquire_n L) (x_acquire_b L) (x_acquire_x L) (x_acquire_f L) (by simp [Act.eval, stA]), ?_⟩
      clear hF
      walk_nrm
      refine hA _ _ rfl (fun _ => stepG_region_end) ?_
      refine hA _ _ rfl (fun _ => stepG_seq) ?_
      refine hA _ _ rfl (fun _ => stepG_seq) ?_
      refine hA _ _ rfl (fun _ => stepG_region) ?_
      simp only [List.size_toArray, List.length_cons, List.length_nil, Nat.reduceAdd, Nat.zero_add, List.range, List.range.loop]
      refine aft_value hA (.bool false) rfl rfl (by k_ne) (fun _ => by go_simp; try (first | w_num | decide)) (fun _ => by simp [go_sem, *]) ?_
      walk_nrm
      refine hA _ _ rfl (fun _ => stepG_region_end) ?_
      refine hA _ _ rfl (fun _ => stepG_cond (t := false) rfl) ?_
      simp only [if_true, if_false, Bool.false_eq_true, ↓reduceIte]
      refine hA _ _ rfl (fun _ => stepG_skip) ?_
      refine hA _ _ rfl (fun _ => stepG_ret') ?_
      exact hA _ _ rfl (fun w => by rw [stepG_leave rfl rfl H.f_wait (results_none rfl _ P w) (events_results_none rfl _ _), Frame.finish_at]) hT
    · refine ⟨_, stepG_cas_miss (v := (v' : Int) * KK) (old := S) (n := S + 1) rfl rfl (by k_ne) rfl H.f_casU64 (x_casU64_n L) (x_casU64_b L) (x_casU64_x L) .u64 (x_casU64_f L) rfl rfl rfl hw.cellSt (hw.thaw 0) (by rw [← hS]; simp only [KK]; omega), 20, ?_⟩
      clear hw
      walk_nrm
      u_op rlx hF
      u_c stepG_region_end rlx hF
      u_c stepG_ret' rlx hF
      u_leave1 H.f_uCas rlx hF
      u_c stepG_region_end rlx hF
      u_cnd false rlx hF
      u_c stepG_skip rlx hF
      u_c stepG_inBlock rlx hF
      u_c stepG_inLoop rlx hF
      refine Goes.stop (fun w₃ h₃ => ?_)
      replace hF := rlx hF h₃
      exact ⟨_, rfl, by simp, by simp, hF⟩
set_option maxRecDepth 100000 in
theorem waitStartM (H : WgLib P L) (w : World) (hF : WgLive L.tWg Wg w) :
    Goes P true (RL L.tWg Wg) DC0 (LKdW P L.tWg Wg (AnchM L Wg (b₀.at a₀ (.inRegion ops₀ (i₀ :: rest₀) :: k₀)) cs)) 3 (G ((base L.wait).at ⟨#[.pointer (some ⟨Wg, 0, none⟩), undef, undef, undef, undef, undef, undef, undef, undef, undef, undef, undef, undef, undef, undef, undef, undef, undef, undef, undef, undef, undef, undef, undef, undef, undef, undef, undef, undef, undef, undef, undef, undef, undef, undef, undef, undef, undef, undef, undef, undef, undef, undef, undef, undef, undef, undef, undef, undef, undef, undef, undef, undef, undef, undef, undef, undef, undef, undef, undef, undef, undef, undef, undef, undef, undef, undef, undef, undef, undef, undef, undef, undef, undef, undef, undef, undef, undef, undef, undef, undef, undef, undef, undef], []⟩ [.code (body_wait L)]) (b₀.at a₀ (.inRegion ops₀ (i₀ :: rest₀) :: k₀) :: cs)) w := by
  lib_facts
  simp only [body_wait, waitFn, Option.getD_some]
  u_c stepG_seq rlx hF
  u_cnd true rlx hF
  u_reg rlx hF
  refine Goes.stop (fun w1 h1 => ?_)
  replace hF := rlx hF h1
  clear h1
  refine ⟨rfl, _, stepG_mark0 .disable (by simp) rfl rfl (by k_ne) rfl H.f_disable (x_disable_n L) (x_disable_b L) (x_disable_x L) (x_disable_f L), 3, ?_⟩
  walk_nrm
  u_c stepG_region_end rlx hF
  u_c stepG_block rlx hF
  u_c stepG_loop rlx hF
  exact Goes.stop (fun w₂ h₂ => ⟨_, rfl, by simp, by simp, rlx hF h₂⟩)
/-- Wait, in whatever company. -/
theorem waitM (H : WgLib P L) (hA : Early P After) (hT : After (G (b₀.at (a₀.put ((ops₀[i₀]?).bind (·.dst)) (.tuple #[])) (.inRegion ops₀ rest₀ :: k₀)) cs)) :
    LWait P L.tWg Wg After (G ((base L.wait).at ⟨#[.pointer (some ⟨Wg, 0, none⟩), undef, undef, undef, undef, undef, undef, undef, undef, undef, undef, undef, undef, undef, undef, undef, undef, undef, undef, undef, undef, undef, undef, undef, undef, undef, undef, undef, undef, undef, undef, undef, undef, undef, undef, undef, undef, undef, undef, undef, undef, undef, undef, undef, undef, undef, undef, undef, undef, undef, undef, undef, undef, undef, undef, undef, undef, undef, undef, undef, undef, undef, undef, undef, undef, undef, undef, undef, undef, undef, undef, undef, undef, undef, undef, undef, undef, undef, undef, undef, undef, undef, undef, undef], []⟩ [.code (body_wait L)]) (b₀.at a₀ (.inRegion ops₀ (i₀ :: rest₀) :: k₀) :: cs)) :=
  ⟨AnchM L Wg (b₀.at a₀ (.inRegion ops₀ (i₀ :: rest₀) :: k₀)) cs, fun g w h => by obtain ⟨_, rfl, _⟩ := h; rfl, fun g w h => waitRoundM H hA hT g w h, fun w hF => ⟨3, waitStartM H w hF⟩⟩
end Go.Proofs.Ytgeflnjjppgooaa.Y

