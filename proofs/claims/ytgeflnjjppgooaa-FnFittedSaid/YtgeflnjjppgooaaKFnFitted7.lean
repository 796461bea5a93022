/- Own texts of this claim, merged: Yd, Wgd, Wl, Zb, Zc, Zd, Ze, Zf, Wgm, Zg, Zh, Zi. -/
import Derived.Conc.WgGenN3
import Derived.Conc.CrowdMono
import Derived.Test.YtgeflnjjppgooaaChecked
import Derived.Conc.QuitsD
import Derived.Test.YtgeflnjjppgooaaKFnFitted6
namespace Go.Proofs.Ytgeflnjjppgooaa.Y
open Go Go.Conc Go.RowKit Go.Proofs.Ytgeflnjjppgooaa Go.Proofs.Ytgeflnjjppgooaa.Q
open Go.ConcR (KK wgBlock WgAt stA smA rd wr mk Payload DC0)
open Go.ConcN (WgLive PayAt Has RW DWs AtR0 WSit)
section
variable (P : Program) (ty : TypeId) (Wg : Nat)
/-- What others do to the group: it lives. -/
def RL (w w₁ : World) : Prop := WgLive ty Wg w → WgLive ty Wg w₁
theorem RL.trans (a b c : World) (h : RL ty Wg a b) (k : RL ty Wg b c) : RL ty Wg a c := fun x => k (h x)
section
variable (After : Goroutine → Prop)
def LKe (g : Goroutine) (w : World) : Prop := g.status = .running ∧ ∃ g', stepG P true g w = .go g' w #[mk .enable] ∧ After g'
def LRd (g : Goroutine) (w : World) : Prop := g.status = .running ∧ ∃ g', stepG P true g w = .go g' w #[mk (.read (smA Wg))] ∧ ∃ m, Goes P true (RL ty Wg) DC0 (LKe P After) m g' w
def LA1 (g : Goroutine) (w : World) : Prop := g.status = .running ∧ ∀ v : Nat, v < 2147483647 → WgAt ty Wg w (v * KK) 0 →
  ∃ g', stepG P true g w = .go g' (w.setCell (stA Wg) (.int .u64 ((v + 1) * KK))) #[rd (stA Wg), wr (stA Wg)] ∧
    (v = 0 → ∃ m, Goes P true (RL ty Wg) DC0 (LRd P ty Wg After) m g' (w.setCell (stA Wg) (.int .u64 ((v + 1) * KK)))) ∧ (v ≠ 0 → ∃ m, Goes P true (RL ty Wg) DC0 (LKe P After) m g' (w.setCell (stA Wg) (.int .u64 ((v + 1) * KK))))
def LKd (g : Goroutine) (w : World) : Prop := g.status = .running ∧ ∃ g', stepG P true g w = .go g' w #[mk .disable] ∧ ∃ m, Goes P true (RL ty Wg) DC0 (LA1 P ty Wg After) m g' w
/-- AT THE CALL OF Add(1). -/
def LAdd (g : Goroutine) : Prop := ∀ w, WgLive ty Wg w → ∃ m, Goes P true (RL ty Wg) DC0 (LKd P ty Wg After) m g w
def LAcq (g : Goroutine) (w : World) : Prop := g.status = .running ∧ ∃ g', stepG P true g w = .go g' w #[mk (.acquire (stA Wg))] ∧ After g'
def LKe2 (g : Goroutine) (w : World) : Prop := g.status = .running ∧ ∃ g', stepG P true g w = .go g' w #[mk .enable] ∧ ∃ m, Goes P true (RL ty Wg) DC0 (LAcq P Wg After) m g' w
def LW4 (g : Goroutine) (w : World) : Prop := g.status = .running ∧ (WgAt ty Wg w 0 0 → ∃ g', stepG P true g w = .go g' w #[rd (stA Wg)] ∧ ∃ m, Goes P true (RL ty Wg) DC0 (LKe2 P ty Wg After) m g' w)
def LW3 (g : Goroutine) (w : World) : Prop := g.status = .running ∧ g.offers = none ∧
  ((∃ st, WgAt ty Wg w st 0) → stepG P true g w = .go { g with status := .blocked } w #[]) ∧
  (WgAt ty Wg w 0 1 → ∃ g', stepG P true g w = .go g' (w.setCell (smA Wg) (.int .u32 0)) (semEvents (smA Wg)) ∧ ∃ m, Goes P true (RL ty Wg) DC0 (LW4 P ty Wg After) m g' (w.setCell (smA Wg) (.int .u32 0)))
def LWr (m : Nat) (g : Goroutine) (w : World) : Prop := g.status = .running ∧ ∃ g', stepG P true g w = .go g' w #[mk (.write (smA Wg))] ∧ Goes P true (RL ty Wg) DC0 (LW3 P ty Wg After) m g' w
variable (AnchW : Goroutine → World → Prop)
def LW2 (vs : Nat) (g : Goroutine) (w : World) : Prop := g.status = .running ∧ ∀ v : Nat, v < 2147483648 → WgAt ty Wg w (v * KK) 0 →
  (v = vs → ∃ g', stepG P true g w = .go g' (w.setCell (stA Wg) (.int .u64 (v * KK + 1))) #[rd (stA Wg), wr (stA Wg)] ∧ ∃ m m', Goes P true (RL ty Wg) DC0 (LWr P ty Wg After m') m g' (w.setCell (stA Wg) (.int .u64 (v * KK + 1)))) ∧
  (v ≠ vs → ∃ g', stepG P true g w = .go g' w #[rd (stA Wg)] ∧ ∃ m, Goes P true (RL ty Wg) DC0 AnchW m g' w)
def LW1 (g : Goroutine) (w : World) : Prop := g.status = .running ∧ ∀ v : Nat, v < 2147483648 → WgAt ty Wg w (v * KK) 0 → ∃ g', stepG P true g w = .go g' w #[rd (stA Wg)] ∧
  (v = 0 → ∃ m, Goes P true (RL ty Wg) DC0 (LKe2 P ty Wg After) m g' w) ∧ (v ≠ 0 → ∃ m, Goes P true (RL ty Wg) DC0 (LW2 P ty Wg After AnchW v) m g' w)
def LKdW (g : Goroutine) (w : World) : Prop := g.status = .running ∧ ∃ g', stepG P true g w = .go g' w #[mk .disable] ∧ ∃ m, Goes P true (RL ty Wg) DC0 AnchW m g' w
/-- AT THE CALL OF Wait. -/
def LWait (g : Goroutine) : Prop := ∃ AnchW : Goroutine → World → Prop, (∀ g w, AnchW g w → g.status = .running) ∧ (∀ g w, AnchW g w → ∃ m, Goes P true (RL ty Wg) DC0 (LW1 P ty Wg After AnchW) m g w) ∧ ∀ w, WgLive ty Wg w → ∃ m, Goes P true (RL ty Wg) DC0 (LKdW P ty Wg AnchW) m g w
end
end
/-- What a phase is about: arr: the blocks whose cells the workers fill, own i a: cell a is worker i's; fin: what holds where worker i has done. -/
structure Sc where
  ty : TypeId
  ety : TypeId
  c : Nat
  x : Value
  Wg : Nat
  n : Nat
  vb : World
  arr : Nat → Bool
  own : Nat → Addr → Prop
  fin : Nat → List (Addr × Value) → World → Prop
@[reducible] def Sc.pay (D : Sc) : Payload := ⟨D.ety⟩
section
variable (P : Program) (D : Sc)
/-- AT THE WORKER's Add(-1). -/
def LDone (g : Goroutine) : Prop :=
  letI := D.pay
  ∀ w, WgLive D.ty D.Wg w → Has D.c 0 D.x w → ∃ m, Goes P false (RW D.ty D.Wg D.c 1 0 0) DC0 (AtR0 P D.ty D.Wg D.c 1 0 1 D.x) m g w
def Stop0 (i : Nat) (σ : List (Addr × Value)) (g : Goroutine) (v : World) : Prop := g.status = .running ∧ D.fin i σ v ∧ LDone P D g
/-- A store to a cell of its own. -/
def Stores (i : Nat) (σ : List (Addr × Value)) (g : Goroutine) (a : Addr) (y : Value) (g' : Goroutine) : Prop :=
  D.own i a ∧ (∀ p ∈ σ, p.1 ≠ a) ∧ ∀ w z, w.cell? a = some z → w.frozen? a = false → stepG P false g w = .go g' (w.setCell a y) #[⟨.cell a, true, false⟩]
def WkStop (i : Nat) : Nat → List (Addr × Value) → Goroutine → World → Prop
  | 0, σ, g, v => Stop0 P D i σ g v
  | r + 1, σ, g, v => g.status = .running ∧ ∃ a y g', Stores P D i σ g a y g' ∧ @Go3 noPh P false (WkStop i r ((a, y) :: σ)) g' v
/-- THE WORKER's SCRIPT: r stores to go. -/
def Work (i : Nat) (r : Nat) (σ : List (Addr × Value)) (g : Goroutine) (v : World) : Prop := @Go3 noPh P false (WkStop P D i r σ) g v
/-- .. as one tree. -/
def GoW (i : Nat) : Rk → List (Addr × Value) → Goroutine → World → Prop
  | .leaf, σ, g, v => ∀ v1, Ext v v1 → Stop0 P D i σ g v1
  | .node f, σ, g, v => (∀ v1, Ext v v1 → Stop0 P D i σ g v1) ∨ (g.status = .running ∧ ∀ v1, Ext v v1 →
      (∃ g' v', StepTo P false g v1 g' v' ∧ GoW i (f v1) σ g' v') ∨ ∃ a y g', Stores P D i σ g a y g' ∧ GoW i (f v1) ((a, y) :: σ) g' v1)
/-- What is behind the join. -/
structure Join (v' : World) : Prop where
  tape : v'.tape = D.vb.tape
  os : v'.os = D.vb.os
  output : v'.output = D.vb.output
  size : D.vb.heap.size ≤ v'.heap.size
  old : ∀ b, b < D.vb.heap.size → b ≠ D.Wg → D.arr b = false → v'.heap[b]? = D.vb.heap[b]?
  arr : ∀ b c ty z, D.arr b = true → D.vb.heap[b]? = some (.cells c ty z) → ∃ c', v'.heap[b]? = some (.cells c' ty z) ∧ c'.size = c.size
  wk : ∀ i, i < D.n → ∃ σ vi, D.fin i σ vi ∧ (∀ b, Liv vi b → v'.heap[b]? = vi.heap[b]?) ∧ ∀ p ∈ σ, v'.cell? p.1 = some p.2
variable (K : Goroutine → World → Prop)
def GoStop (k : Nat) (Next : Goroutine → World → Prop) (g : Goroutine) (v : World) : Prop :=
  g.status = .running ∧ ∃ g' child, (∀ w, View v w → stepG P true g w = .spawn g' child w #[]) ∧ child.status = .running ∧
    (∃ r, Work P D k r [] child (frz v)) ∧ Next g' (frz v)
def SpStop : Nat → Goroutine → World → Prop
  | 0, g, _ => g.status = .running ∧ LWait P D.ty D.Wg (fun g' => ∀ v', Join D v' → K g' v') g
  | r + 1, g, v => g.status = .running ∧ LAdd P D.ty D.Wg (fun g' => @Go3 noPh P true (GoStop P D (D.n - (r + 1)) fun g v => @Go3 noPh P true (SpStop r) g v) g' v) g
/-- The starter's view of the phase: all that was there is frozen, the group and the workers' arrays are out of reach. -/
def begin_ : World := kill (fun b => b == D.Wg || D.arr b) (frz D.vb)
/-- What is asked where a phase begins. -/
structure PhOk : Prop where
  n : D.n < 2147483648
  wg : WgAt D.ty D.Wg D.vb 0 0
  arr : ∀ b, D.arr b = true → b ≠ D.Wg ∧ ∃ c ty, D.vb.heap[b]? = some (.cells c ty (0, 0))
  arr0 : ∀ b, D.arr b = true → Liv D.vb b
  own : ∀ i a, D.own i a → D.arr a.block = true ∧ a.spot = none ∧ ∃ y, D.vb.cell? a = some y
  own1 : ∀ i i' a, D.own i a → D.own i' a → i = i'
  c : D.c ≠ D.Wg ∧ D.arr D.c = false ∧ D.vb.heap[D.c]? = some (.cells #[D.x] D.ety)
  finX : ∀ i σ v v1, D.fin i σ v → Ext v v1 → D.fin i σ v1
/-- THE PHASE, as the walk of goroutine 0 bears it. -/
def Phase (P : Program) (m : Bool) (g : Goroutine) (v : World) (K : Goroutine → World → Prop) : Prop :=
  m = true ∧ ∃ D : Sc, D.vb = v ∧ PhOk D ∧ @Go3 noPh P true (SpStop P D K D.n) g (begin_ D)
end
instance phC : PhC := ⟨Phase, Unit, fun _ => true⟩
section
variable {P : Program} {D : Sc} {i : Nat} {σ : List (Addr × Value)} {g : Goroutine} {v v1 : World} {r : Rk}
theorem GoW.ext (h : GoW P D i r σ g v) (hx : Ext v v1) : GoW P D i r σ g v1 := by
  cases r with
  | leaf => exact fun v2 h2 => h v2 (hx.trans h2)
  | node f => exact h.imp (fun h v2 h2 => h v2 (hx.trans h2)) fun h => ⟨h.1, fun v2 h2 => h.2 v2 (hx.trans h2)⟩
theorem GoW.of : ∀ (r : Nat) {σ : List (Addr × Value)} {g : Goroutine} {v : World}, Work P D i r σ g v → ∃ k, GoW P D i k σ g v := by
  classical
  intro r
  induction r with
  | zero =>
    intro σ g v h
    unfold Work at h
    induction h with
    | stop h => exact ⟨.leaf, h⟩
    | @step g v hs g' v' h hn ih =>
      refine ⟨.node fun v1 => if hx : Ext v v1 then (ih v1 hx).choose else .leaf, .inr ⟨hs, fun v1 hx => .inl ⟨g' v1, v' v1, h v1 hx, ?_⟩⟩⟩
      show GoW P D i (if hx : Ext v v1 then (ih v1 hx).choose else .leaf) σ (g' v1) (v' v1)
      rw [dif_pos hx]
      exact (ih v1 hx).choose_spec
    | phase K h hn ih => exact (h _ (Ext.refl _)).elim
  | succ r ihr =>
    intro σ g v h
    unfold Work at h
    induction h with
    | @stop g v h =>
      have h2 : ∀ v1, Ext v v1 → ∃ k a y g', Stores P D i σ g a y g' ∧ GoW P D i k ((a, y) :: σ) g' v1 := fun v1 hx => by
        obtain ⟨_, a, y, g', h3, h4⟩ := h v1 hx
        obtain ⟨k, hk⟩ := ihr h4
        exact ⟨k, a, y, g', h3, hk⟩
      refine ⟨.node fun v1 => if hx : Ext v v1 then (h2 v1 hx).choose else .leaf, .inr ⟨(h v (Ext.refl v)).1, fun v1 hx => .inr ?_⟩⟩
      obtain ⟨a, y, g', h3, h4⟩ := (h2 v1 hx).choose_spec
      refine ⟨a, y, g', h3, ?_⟩
      show GoW P D i (if hx : Ext v v1 then (h2 v1 hx).choose else .leaf) _ g' v1
      rw [dif_pos hx]
      exact h4
    | @step g v hs g' v' h hn ih =>
      refine ⟨.node fun v1 => if hx : Ext v v1 then (ih v1 hx).choose else .leaf, .inr ⟨hs, fun v1 hx => .inl ⟨g' v1, v' v1, h v1 hx, ?_⟩⟩⟩
      show GoW P D i (if hx : Ext v v1 then (ih v1 hx).choose else .leaf) σ (g' v1) (v' v1)
      rw [dif_pos hx]
      exact (ih v1 hx).choose_spec
    | phase K h hn ih => exact (h _ (Ext.refl _)).elim
theorem GoW.cases (h : GoW P D i r σ g v) : Stop0 P D i σ g v ∨ (g.status = .running ∧ ∃ r', Dn r' r ∧ ((∃ g' v', StepTo P false g v g' v' ∧ GoW P D i r' σ g' v') ∨ ∃ a y g', Stores P D i σ g a y g' ∧ GoW P D i r' ((a, y) :: σ) g' v)) := by
  cases r with
  | leaf => exact .inl (h v (Ext.refl v))
  | node f =>
    rcases h with h | ⟨hs, h⟩
    · exact .inl (h v (Ext.refl v))
    · exact .inr ⟨hs, f v, .mk f v, h v (Ext.refl v)⟩
end
end Go.Proofs.Ytgeflnjjppgooaa.Y

namespace Go.Proofs.Ytgeflnjjppgooaa.Y
open Go Go.Conc Go.ConcN Go.RowKit Go.Conc.Lib Go.ConcR.Gen Go.ConcN.Gen
open Go.ConcR (KK wgBlock WgAt stA smA rd wr mk DC0 Payload)
set_option linter.unusedVariables false
set_option linter.unusedSimpArgs false
/-- A step is a function: a walk that lists nothing goes along any other walk that does not stop at such a step. -/
theorem det {P : Program} {m : Bool} {R : World → World → Prop} {Dd : World → World → Array Event → Prop} {S S' : Goroutine → World → Prop} (hR : ∀ w, R w w) (hS : ∀ g w g', S g w → stepG P m g w ≠ .go g' w #[]) :
    ∀ (n' : Nat) {g : Goroutine} {w : World}, Goes P m R DC0 S' n' g w → ∀ {n : Nat}, Goes P m R Dd S n g w → ∃ n2 g2, S' g2 w ∧ Goes P m R Dd S n2 g2 w := by
  intro n'
  induction n' with
  | zero => exact fun {g w} h {n} k => ⟨n, g, h w (hR w), k⟩
  | succ n' ih =>
    intro g w h n k
    rcases h with h | ⟨_, h⟩
    · exact ⟨n, g, h w (hR w), k⟩
    · obtain ⟨g1, w1, es, e1, ⟨rfl, rfl⟩, h2⟩ := goes_elim (h w (hR w))
      cases n with
      | zero => exact absurd e1 (hS _ _ _ (k _ (hR _)))
      | succ n =>
        rcases k with k | ⟨_, k⟩
        · exact absurd e1 (hS _ _ _ (k _ (hR _)))
        · obtain ⟨g2, w2, es2, e2, _, k2⟩ := goes_elim (k _ (hR _))
          rw [e1] at e2
          cases e2
          exact ih h2 k2
variable [Payload] {L : WgLink} {P : Program} {Wg c : Nat} {x : Value} {b₀ : Frame} {a₀ : Act} {ops₀ : Array Oper} {i₀ : Nat} {rest₀ : List Nat} {k₀ : List Item} {cs : List Frame}
set_option maxRecDepth 100000 in
set_option maxHeartbeats 4000000 in
theorem r0walk (H : WgLib P L) :
    ∃ g0, (∀ w, WgLive L.tWg Wg w ∧ Has c 0 x w → Goes P false (RW L.tWg Wg c 1 0 0) DC0 (fun g w => g = g0 ∧ WgLive L.tWg Wg w ∧ Has c 0 x w) 14 (G ((base L.add).at ⟨#[.pointer (some ⟨Wg, 0, none⟩), .int .i64 (-1), undef, undef, undef, undef, undef, undef, undef, undef, undef, undef, undef, undef, undef, undef, undef, undef, undef, undef, undef, undef, undef, undef, undef, undef, undef, undef, undef, undef, undef, undef, undef, undef, undef, undef, undef, undef, undef, undef, undef, undef, undef, undef, undef, undef, undef, undef, undef, undef, undef, undef, undef, undef, undef, undef, undef, undef, undef, undef, undef, undef, undef, undef, undef, undef, undef, undef, undef, undef, undef, undef, undef, undef, undef, undef, undef, undef, undef, undef, undef, undef, undef, undef, undef, undef, undef, undef, undef, undef, undef, undef, undef, undef, undef, undef, undef, undef, undef, undef, undef, undef, undef, undef, undef, undef, undef, undef, undef, undef, undef, undef, undef, undef, undef, undef, undef], []⟩ [.code (body_add L)]) (b₀.at a₀ (.inRegion ops₀ (i₀ :: rest₀) :: k₀) :: cs)) w) ∧
      ∃ g1, (∀ w, stepG P false g0 w = .go g1 w #[mk (.releaseMerge (stA Wg))]) ∧ ∃ gd, (∀ w, WgLive L.tWg Wg w ∧ Has c 0 x w → Goes P false (RW L.tWg Wg c 1 0 0) DC0 (fun g w => g = gd ∧ WgLive L.tWg Wg w ∧ Has c 0 x w) 6 g1 w) ∧
        ∃ g2, ∀ w, stepG P false gd w = .go g2 w #[mk .disable] := by
  lib_facts
  simp only [body_add, addFn, Option.getD_some]
  apply Exists.intro
  apply And.intro
  · intro w hK
    u_c stepG_seq kn_rely hK
    u_cnd true kn_rely hK
    u_c stepG_seq kn_rely hK
    u_c stepG_seq kn_rely hK
    u_reg kn_rely hK
    u_op kn_rely hK
    u_op kn_rely hK
    u_c stepG_region_end kn_rely hK
    u_cnd true kn_rely hK
    u_reg kn_rely hK
    u_op kn_rely hK
    u_conv H.underlying_tWgP H.room_tWg (WgLive.cell0 hK.1).choose_spec kn_rely hK
    exact Goes.stop fun w₁ h₁ => ⟨rfl, kn_rely (C := c) (i := 0) hK h₁⟩
  refine ⟨_, fun w => stepG_markAt .releaseMerge (by simp) rfl rfl (by k_ne) rfl H.f_relMerge (x_relMerge_n L) (x_relMerge_b L) (x_relMerge_x L) (x_relMerge_f L) (by simp [Act.eval, stA]), ?_⟩
  walk_nrm
  apply Exists.intro
  apply And.intro
  · intro w hK
    u_c stepG_region_end kn_rely hK
    u_c stepG_seq kn_rely hK
    u_reg kn_rely hK
    exact Goes.stop fun w₁ h₁ => ⟨rfl, kn_rely (C := c) (i := 0) hK h₁⟩
  exact ⟨_, fun w => stepG_mark0 .disable (by simp) rfl rfl (by k_ne) rfl H.f_disable (x_disable_n L) (x_disable_b L) (x_disable_x L) (x_disable_f L)⟩
/-- A worker at its Add(-1). -/
theorem doneM (H : WgLib P L) {qt : Nat} (hT : QuitsD P qt 0 (G (b₀.at (a₀.put ((ops₀[i₀]?).bind (·.dst)) (.tuple #[])) (.inRegion ops₀ rest₀ :: k₀)) cs)) (w : World) (h1 : WgLive L.tWg Wg w) (h2 : Has c 0 x w) :
    ∃ m, Goes P false (RW L.tWg Wg c 1 0 0) DC0 (AtR0 P L.tWg Wg c 1 0 1 x) m (G ((base L.add).at ⟨#[.pointer (some ⟨Wg, 0, none⟩), .int .i64 (-1), undef, undef, undef, undef, undef, undef, undef, undef, undef, undef, undef, undef, undef, undef, undef, undef, undef, undef, undef, undef, undef, undef, undef, undef, undef, undef, undef, undef, undef, undef, undef, undef, undef, undef, undef, undef, undef, undef, undef, undef, undef, undef, undef, undef, undef, undef, undef, undef, undef, undef, undef, undef, undef, undef, undef, undef, undef, undef, undef, undef, undef, undef, undef, undef, undef, undef, undef, undef, undef, undef, undef, undef, undef, undef, undef, undef, undef, undef, undef, undef, undef, undef, undef, undef, undef, undef, undef, undef, undef, undef, undef, undef, undef, undef, undef, undef, undef, undef, undef, undef, undef, undef, undef, undef, undef, undef, undef, undef, undef, undef, undef, undef, undef, undef, undef], []⟩ [.code (body_add L)]) (b₀.at a₀ (.inRegion ops₀ (i₀ :: rest₀) :: k₀) :: cs)) w := by
  obtain ⟨g0, k0, g1, s1, gd, kd, g2, s2⟩ := r0walk (Wg := Wg) (c := c) (x := x) (b₀ := b₀) (a₀ := a₀) (ops₀ := ops₀) (i₀ := i₀) (rest₀ := rest₀) (k₀ := k₀) (cs := cs) H
  have hR : ∀ w, RW L.tWg Wg c 1 0 0 w w := fun w => RW.refl w
  have hS : ∀ g w g', AtR0 P L.tWg Wg c 1 0 1 x g w → stepG P false g w ≠ .go g' w #[] := by
    rintro g w g' ⟨_, _, g'', h, _⟩ e
    rw [h] at e
    simp at e
  refine ⟨14, goes_mono ?_ (k0 w ⟨h1, h2⟩)⟩
  rintro g w ⟨rfl, h1, h2⟩
  have K := @addNegN _ L P H (fun _ _ => False) (fun _ _ => False) Wg c 1 0 1 x b₀ a₀ ops₀ i₀ rest₀ k₀ cs qt hT w ⟨h1, h2⟩
  obtain ⟨n2, g2', ⟨rfl, _⟩, K2⟩ := det hR hS 14 (k0 w ⟨h1, h2⟩) K
  rcases Goes.cases K2 with hstop | ⟨m', rfl, hstep⟩
  · exact hstop w (hR w)
  · obtain ⟨g3, w3, es, e3, _, K3⟩ := hstep w (hR w)
    rw [s1 w] at e3
    cases e3
    obtain ⟨n4, g4, ⟨rfl, _⟩, K4⟩ := det hR hS 6 (kd w ⟨h1, h2⟩) K3
    rcases Goes.cases K4 with hstop | ⟨m', rfl, hstep⟩
    · obtain ⟨_, _, g5, e5, _⟩ := hstop w (hR w)
      rw [s2 w] at e5
      simp [mk] at e5
    · obtain ⟨g5, w5, es5, e5, ⟨_, hev⟩, _⟩ := hstep w (hR w)
      rw [s2 w] at e5
      cases e5
      exact absurd rfl (hev (mk .disable) (by simp)).2.1
end Go.Proofs.Ytgeflnjjppgooaa.Y

namespace Go.Proofs.Ytgeflnjjppgooaa.Y
open Go Go.Conc Go.RowKit
abbrev lnk : Go.Conc.Lib.WgLink := { add := 72, done := 75, wait := 48, relMerge := 99, disable := 76, enable := 78, inBubble := 84, associate := 100, fatal := 101, uOr := 102, uAdd := 103, raceRead := 104, uLoad := 77, uStore := 105, disassociate := 82, semrelease := 106, acquire := 79, isAssociated := 80, uCas := 81, raceWrite := 83, semacquire := 85, orU64 := 113, addU64 := 114, loadU64 := 107, storeU64 := 115, casU64 := 108, tWgP := 98, tUP := 103, tAssoc := 120, tWg := 76, tAU := 73, tU64 := 71, tUint := 101, tU32 := 74, tPU32 := 107, tPAU := 126, tPU64 := 128, tNoCopy := 68, tANoCopy := 69, tAlign64 := 70 }
theorem lib : Go.Conc.Lib.WgLib Try.prog lnk :=
  ⟨Try.func72, Try.func75, Try.func48, Try.func99, Try.func76, Try.func78, Try.func84, Try.func100, Try.func101, Try.func102, Try.func103, Try.func104, Try.func77, Try.func105, Try.func82, Try.func106, Try.func79, Try.func80, Try.func81, Try.func83, Try.func85, Try.func113, Try.func114, Try.func107, Try.func115, Try.func108, Try.underlying98, Try.runUnderlying98, Try.sizeOf98, Try.isAgg98, Try.zeroValue98, Try.underlying103, Try.runUnderlying103, Try.sizeOf103, Try.isAgg103, Try.zeroValue103, Try.underlying120, Try.runUnderlying120, Try.sizeOf120, Try.isAgg120, Try.zeroValue120, Try.underlying76, Try.runUnderlying76, Try.sizeOf76, Try.isAgg76, Try.zeroValue76, Try.underlying73, Try.runUnderlying73, Try.sizeOf73, Try.isAgg73, Try.zeroValue73, Try.underlying71, Try.runUnderlying71, Try.sizeOf71, Try.isAgg71, Try.zeroValue71, Try.underlying101, Try.runUnderlying101, Try.sizeOf101, Try.isAgg101, Try.zeroValue101, Try.underlying74, Try.runUnderlying74, Try.sizeOf74, Try.isAgg74, Try.zeroValue74, Try.underlying107, Try.runUnderlying107, Try.sizeOf107, Try.isAgg107, Try.zeroValue107, Try.underlying126, Try.runUnderlying126, Try.sizeOf126, Try.isAgg126, Try.zeroValue126, Try.underlying128, Try.runUnderlying128, Try.sizeOf128, Try.isAgg128, Try.zeroValue128, Try.underlying0, Try.runUnderlying0, Try.sizeOf0, Try.isAgg0, Try.zeroValue0, Try.underlying3, Try.runUnderlying3, Try.sizeOf3, Try.isAgg3, Try.zeroValue3, Try.underlying4, Try.runUnderlying4, Try.sizeOf4, Try.isAgg4, Try.zeroValue4, Try.underlying9, Try.runUnderlying9, Try.sizeOf9, Try.isAgg9, Try.zeroValue9, Try.underlying20, Try.runUnderlying20, Try.sizeOf20, Try.isAgg20, Try.zeroValue20, Try.underlying21, Try.runUnderlying21, Try.sizeOf21, Try.isAgg21, Try.zeroValue21, (by kernel_rfl), (by kernel_rfl)⟩
end Go.Proofs.Ytgeflnjjppgooaa.Y

namespace Go.Proofs.Ytgeflnjjppgooaa.Y
open Go Go.Conc Go.RowKit Go.Proofs.Ytgeflnjjppgooaa Go.Proofs.Ytgeflnjjppgooaa.Q Go.Conc.Lib Go.ConcR.Gen Go.ConcN.Gen
attribute [-instance] phC
attribute [local instance] noPh
set_option linter.unusedSimpArgs false
def botF (P : Program) : Frame := { (default : Frame) with fn := P.funcs.size, defers := [], mode := .panicking [goexitEntry] }
def dV (f : FuncId) (cap : Array Value) : Deferred := { target := .fn (.func f) cap, args := #[] }
abbrev goB : Frame := baseD 73
abbrev dnV (p0 : Addr) : Deferred := dV 74 #[.pointer (some p0)]
abbrev fnV (f : FuncId) (cap : Array Value) : Value := .func (.func f) #[] cap
abbrev goT (p0 p1 : Addr) (g : FuncId) (cap : Array Value) (x : Value) : Array Value := #[.pointer (some p0), .pointer (some p1), fnV 74 #[.pointer (some p0)], fnV g cap, x]
/-- Behind Done: it only leaves. -/
theorem quitsEnd (T : Array Value) : QuitsD Try.prog 2 0 (G { goB.at ⟨T, []⟩ [] with mode := .returning } [botF Try.prog]) := by
  refine QuitsD.ctl (g' := G (botF Try.prog) []) rfl (fun w => ?_) ?_
  · simp [G, stepG, unwind, doReturn, results, Frame.at, baseD, botF, Try.func73, Try.f73, seen, GStep.after, goexitEntry]
  refine QuitsD.ctl (g' := { G (botF Try.prog) [] with status := .finished }) rfl (fun w => ?_) ⟨rfl, rfl⟩
  simp [G, stepG, unwind, botF, goexitEntry, Frame.catches]
  rfl
theorem defer_step {P : Program} {main : Bool} {b : Frame} {a : Act} {k : List Item} {cs : List Frame} {w : World} {ops : Array Oper} {i : Nat} {rest : List Nat} {o : Oper} {x : Operand} {f : FuncId} {cap : Array Value} (ho : ops[i]? = some o) (hw : Region.wanted o (yielded ops a.tmps) = true) (hk : b.kind ≠ .early)
    (hop : o.op = .defer { callee := .value x, args := #[], argTypes := #[] }) (ef : a.eval x = fnV f cap) :
    stepG P main (G (b.at a (.inRegion ops (i :: rest) :: k)) cs) w = .go (G (b.at (Act.put ⟨a.tmps, dV f cap :: a.defers⟩ o.dst undef) (.inRegion ops rest :: k)) cs) w #[] := by
  have hr : (execOp a.eval o).run P w = .ok (.defer (dV f cap)) w := by
    unfold execOp
    simp [hop, resolve, Deferred.ofValue, ef, dV]
  have he : (execOp a.eval o).events P w #[] = #[] := by
    unfold execOp
    simp [hop, resolve, Deferred.ofValue, ef]
  have hfin : (b.at ⟨a.tmps, dV f cap :: a.defers⟩ (.inRegion ops (i :: rest) :: k)).finish undef = b.at (Act.put ⟨a.tmps, dV f cap :: a.defers⟩ o.dst undef) (.inRegion ops rest :: k) := by rw [Frame.finish_at, ho]; rfl
  have hk' : (b.kind == CallKind.early) = false := by simpa using hk
  rw [stepG_oper ho hw, ← hfin]
  simp [stepG.apply, hr, he, G, Frame.at, hk', GStep.after, seen_none]
theorem unwindV {P : Program} {main : Bool} {b : Frame} {a : Act} {cs : List Frame} {w : World} {todo : List Item} {ds : List Deferred} {f : FuncId} {fn : Func} {cap : Array Value} {c : Code} (hd : a.defers = dV f cap :: ds) (hf : P.funcs[f]? = some fn) (hname : (fn.name == "runtime.NumGoroutine") = false) (hb : fn.body = some c) :
    stepG P main (G { b.at a todo with mode := .returning } cs) w =
      .go (G ((baseD f).at { tmps := cap ++ Array.replicate (fn.ntmps - cap.size) undef, defers := [] } [.code c]) ({ b.at ⟨a.tmps, ds⟩ todo with mode := .returning } :: cs)) w #[] := by
  have h1 : ¬ fn.name = "runtime.NumGoroutine" := by simpa using hname
  rw [← enter_atD cap hf hb]
  simp [G, stepG, unwind, callDeferred, Frame.at, hd, dV, invoke, callFunc, hf, h1, hb, GStep.after, seen_none]
theorem recover_step {P : Program} {main : Bool} {b : Frame} {a : Act} {k : List Item} {c : Frame} {cs : List Frame} {w : World} {ops : Array Oper} {i : Nat} {rest : List Nat} {o : Oper} (ho : ops[i]? = some o) (hw : Region.wanted o (yielded ops a.tmps) = true) (hk : b.kind = .deferred) (_hro : b.roundOf = none) (hc : c.mode = .returning)
    (hop : o.op = .call { callee := .builtin .recover, args := #[], argTypes := #[] }) :
    stepG P main (G (b.at a (.inRegion ops (i :: rest) :: k)) (c :: cs)) w = .go (G (b.at (a.put o.dst .nilIface) (.inRegion ops rest :: k)) (c :: cs)) w #[] := by
  have hr : (execOp a.eval o).run P w = .ok .recover w := by
    unfold execOp
    simp [hop, resolve, invoke, builtin]
  have he : (execOp a.eval o).events P w #[] = #[] := by
    unfold execOp
    simp [hop, resolve, invoke, builtin]
  have hfin : (b.at a (.inRegion ops (i :: rest) :: k)).finish .nilIface = b.at (a.put o.dst .nilIface) (.inRegion ops rest :: k) := by rw [Frame.finish_at, ho]; rfl
  rw [stepG_oper ho hw, ← hfin]
  simp [stepG.apply, hr, he, G, Frame.at, hk, _hro, hc, tryRecover, GStep.after, seen_none]
theorem born_in {P : Program} {m : Bool} {f : FuncId} {fn : Func} {cap : Array Value} {c : Code} (hf : P.funcs[f]? = some fn) (hname : (fn.name == "runtime.NumGoroutine") = false) (hb : fn.body = some c) (w : World) :
    stepG P m (born P (dV f cap)) w = .go (G ((baseD f).at { tmps := cap ++ Array.replicate (fn.ntmps - cap.size) undef, defers := [] } [.code c]) [botF P]) w #[] := by
  have h1 : ¬ fn.name = "runtime.NumGoroutine" := by simpa using hname
  rw [← enter_atD cap hf hb]
  simp [born, dV, stepG, unwind, callDeferred, invoke, callFunc, hf, h1, hb, seen, GStep.after, G, botF]
theorem go_const {P : Program} {m : Bool} {S : Goroutine → World → Prop} {ops : Array Oper} {i : Nat} {rest : List Nat} {o : Oper} {b : Frame} {a : Act} {k : List Item} {cs : List Frame} {v : World} (x : Value) (ho : ops[i]? = some o) (hw : Region.wanted o (yielded ops a.tmps) = true) (hk : b.kind ≠ .early)
    (hr : ∀ w, (execOp a.eval o).run P w = .ok (.value x) w) (he : ∀ w, (execOp a.eval o).events P w #[] = #[]) (h : Go3 P m S (G (b.at (a.put o.dst x) (.inRegion ops rest :: k)) cs) v) :
    Go3 P m S (G (b.at a (.inRegion ops (i :: rest) :: k)) cs) v :=
  .ctl rfl (fun w => by rw [stepG_value ho hw hk (hr w)]; unfold listed; rw [he w, seen_none]) h
theorem ev_equalIn_nil {P : Program} {t : TypeId} {ms : Array (String × TypeId)} (ht : P.underlying t = some (.interface ms)) (d : Nat) (w : World) (es : Array Event) : (Op.equalIn (d + 1) t .nilIface .nilIface).events P w es = es := by
  unfold Op.equalIn
  simp [run_underlying ht]
theorem ev_neq_nil {P : Program} {t : TypeId} {ms : Array (String × TypeId)} (ht : P.underlying t = some (.interface ms)) (w : World) : (binOp .neq t .nilIface .nilIface).events P w #[] = #[] := by
  have h := ev_equalIn_nil ht 9999 w #[]
  have h2 : (Op.equal t .nilIface .nilIface).events P w #[] = #[] := h
  simp [binOp, h2]
set_option maxRecDepth 100000 in
set_option maxHeartbeats 1000000 in
/-- Behind the function's return: to the entry of Add(-1). -/
theorem tail (W : Nat) (p0 p1 : Addr) (g : FuncId) (cap : Array Value) (x : Value) (ops : Array Oper) :
    ∃ gA : Goroutine, (∀ (S : Goroutine → World → Prop) (v : World), v.cell? p0 = some (.pointer (some ⟨W, 0, none⟩)) → (∀ v1, Ext v v1 → S gA v1) → Go3 Try.prog false S (G (goB.at ⟨goT p0 p1 g cap x, [dnV p0]⟩ [.inRegion ops []]) [botF Try.prog]) v) ∧
      gA.status = .running ∧ ∀ D : Sc, D.ty = lnk.tWg → D.Wg = W → LDone Try.prog D gA := by
  apply Exists.intro
  apply And.intro
  · intro S v hv hS
    refine .ctl rfl (fun _ => stepG_region_end) ?_
    refine .ctl rfl (fun _ => stepG_end) ?_
    refine .ctl rfl (fun _ => unwindV rfl Try.func74 (by kernel_rfl) rfl) ?_
    simp only [Try.f74, Option.getD_some]
    walk_nrm
    refine .ctl rfl (fun _ => stepG_seq) ?_
    refine .ctl rfl (fun _ => stepG_seq) ?_
    refine .ctl rfl (fun _ => stepG_region) ?_
    refine .ctl rfl (fun _ => recover_step rfl rfl rfl rfl rfl rfl) ?_
    refine go_const .nilIface rfl rfl (by decide) (fun _ => rfl) (fun _ => rfl) ?_
    walk_nrm
    refine .ctl rfl (fun _ => stepG_region_end) ?_
    refine .ctl rfl (fun _ => stepG_seq) ?_
    refine .ctl rfl (fun _ => stepG_region) ?_
    refine go_const .nilIface rfl rfl (by decide) (fun _ => rfl) (fun _ => rfl) ?_
    walk_nrm
    refine go_const (.bool false) rfl rfl (by decide) (fun _ => by simp [go_sem, Op.equal]) (fun w => ev_neq_nil Try.underlying20 w) ?_
    walk_nrm
    refine .ctl rfl (fun _ => stepG_region_end) ?_
    refine .ctl rfl (fun _ => stepG_cond (t := false) rfl) ?_
    refine .ctl rfl (fun _ => stepG_skip) ?_
    refine .ctl rfl (fun _ => stepG_region) ?_
    refine go_pure (.pointer (some ⟨W, 0, none⟩)) rfl rfl (by decide) (frop_of (by kernel_rfl) _ fun _ => rfl) (fun v1 hx => by have h9 := (hx.cell (World.block_lt_of_cell hv)).trans hv; simp [execOp, Instr.loadAt, Instr.sureAddr, loadVar, Act.eval, Try.isAgg98, h9]) ?_
    walk_nrm
    refine go_in #[.pointer (some ⟨W, 0, none⟩)] Try.func75 rfl rfl rfl (by decide) (frop_of (by kernel_rfl) _ fun _ => rfl) (fun v1 hx => by simp [execOp, resolve, Deferred.ofValue, invoke, callFunc, Act.eval, Try.func75, Try.f75]) ?_
    simp only [Try.f75, Option.getD_some]
    walk_nrm
    refine .ctl rfl (fun _ => stepG_region) ?_
    refine go_const (.pointer (some ⟨W, 0, none⟩)) rfl rfl (by decide) (fun _ => rfl) (fun _ => rfl) ?_
    walk_nrm
    refine go_in (c := body_add lnk) #[.pointer (some ⟨W, 0, none⟩), .int .i64 (-1)] lib.f_add rfl rfl rfl (by decide) (frop_of (by kernel_rfl) _ fun _ => rfl) (fun v1 hx => by simp [execOp, resolve, Deferred.ofValue, invoke, callFunc, Act.eval, lib.f_add, addFn]) ?_
    rw [show (addFn lnk).ntmps = 117 from rfl]
    walk_nrm
    exact .stop hS
  refine ⟨rfl, fun D h1 h2 => ?_⟩
  subst h2
  intro w h3 h4
  letI := D.pay
  rw [h1] at h3 ⊢
  refine doneM lib (qt := 8) ?_ w h3 h4
  refine QuitsD.ctl rfl (fun _ => stepG_region_end) ?_
  refine QuitsD.ctl rfl (fun _ => stepG_end) ?_
  refine QuitsD.leave0 rfl rfl Try.func75 rfl ?_
  refine QuitsD.ctl rfl (fun _ => stepG_region_end) ?_
  refine QuitsD.ctl rfl (fun _ => stepG_end) ?_
  refine QuitsD.leaveD rfl rfl Try.func74 rfl rfl ?_
  exact quitsEnd _
end Go.Proofs.Ytgeflnjjppgooaa.Y

namespace Go.Proofs.Ytgeflnjjppgooaa.Q
open Go Go.Conc Go.RowKit
theorem all_listed {ops : Array Oper} {listed : Array Bool} (hback : backOk ops = true) (hsz : listed.size = ops.size) (hr : Region.ready .any ops listed = []) : ∀ j, j < ops.size → listed.getD j false = true := by
  apply Classical.byContradiction
  intro hne
  have hex : ∃ j, j < ops.size ∧ listed.getD j true = false := by
    apply Classical.byContradiction
    intro h
    apply hne
    intro j hj
    have : listed.getD j true = true := by
      cases hl : listed.getD j true with
      | true => rfl
      | false => exact absurd ⟨j, hj, hl⟩ h
    have hs : j < listed.size := by omega
    simpa [hs] using this
  have hmin : ∀ m, (∃ j, j ≤ m ∧ j < ops.size ∧ listed.getD j true = false) → ∃ j, j < ops.size ∧ listed.getD j true = false ∧ ∀ i, i < j → listed.getD i true = true := by
    intro m
    induction m with
    | zero => rintro ⟨j, hj, h1, h2⟩; exact ⟨j, h1, h2, fun i hi => by omega⟩
    | succ m ih =>
      rintro ⟨j, hj, h1, h2⟩
      by_cases h : ∃ j, j ≤ m ∧ j < ops.size ∧ listed.getD j true = false
      · exact ih h
      · refine ⟨j, h1, h2, fun i hi => ?_⟩
        cases hi' : listed.getD i true with
        | true => rfl
        | false => exact absurd ⟨i, by omega, by omega, hi'⟩ h
  obtain ⟨j, hj⟩ := hex
  obtain ⟨j, h1, h2, h3⟩ := hmin j ⟨j, Nat.le_refl _, hj⟩
  have hmem : j ∈ Region.ready .any ops listed := by
    refine mem_ready.2 ⟨h2, ops[j], Array.getElem?_eq_getElem h1, fun e he hb => ?_⟩
    have hb' := List.all_eq_true.1 hback j (List.mem_range.2 h1)
    rw [Array.getElem?_eq_getElem h1] at hb'
    have hlt' := Array.all_eq_true'.1 hb' e he
    simp only [hb, Bool.not_true, Bool.false_or, decide_eq_true_eq] at hlt'
    have := h3 e.on hlt'
    have hs : e.on < listed.size := by omega
    simpa [hs] using this
  rw [hr] at hmem
  cases hmem
theorem ready_head {ops ops' : Array Oper} {listed listed' : Array Bool} {i : Nat} (hop : ∀ i, i < ops'.size → ops'[i]? = ops[i]?) (hback : backOk ops' = true) (hs : listed.size = ops.size) (hs' : listed'.size = ops'.size)
    (hl : ∀ i, i < ops'.size → listed.getD i false = listed'.getD i false) (hi : i < ops'.size) (h : i ∈ Region.ready .any ops listed) : i ∈ Region.ready .any ops' listed' := by
  obtain ⟨h1, o, h2, h3⟩ := mem_ready.1 h
  have hlt := (Array.getElem?_eq_some_iff.1 h2).1
  have ho' : ops'[i]? = some o := (hop i hi).trans h2
  refine mem_ready.2 ⟨?_, o, ho', fun e he hb => ?_⟩
  · have := hl i hi
    have a1 : i < listed.size := by omega
    have a2 : i < listed'.size := by omega
    simp [a1, a2] at this h1 ⊢
    rw [← this]; exact h1
  · have hb' := List.all_eq_true.1 hback i (List.mem_range.2 hi)
    rw [ho'] at hb'
    have hlt' := Array.all_eq_true'.1 hb' e he
    simp only [hb, Bool.not_true, Bool.false_or, decide_eq_true_eq] at hlt'
    rw [← hl e.on (by omega)]
    exact h3 e he hb
section
variable [PhC] {P : Program} {ops ops' : Array Oper} {b : Frame} {k : List Item} {cs : List Frame} {m : PhC.M} {S : Goroutine → World → Prop} {Q : Exit → Act → World → Prop}
/-- The first operations by a walk, the late ones (of which T says which are listed) by hand. -/
structure Late (ops ops' : Array Oper) (T : Nat → Bool) (listed listed' : Array Bool) : Prop where
  s : listed.size = ops.size
  s' : listed'.size = ops'.size
  head : ∀ i, i < ops'.size → listed.getD i false = listed'.getD i false
  tail : ∀ i, ops'.size ≤ i → i < ops.size → listed.getD i false = T i
theorem go_late {R : Nat} (T : Nat → Bool) (_hle : ops'.size ≤ ops.size) (hop : ∀ i, i < ops'.size → ops'[i]? = ops[i]?) (hb' : backOk ops' = true) (hb : backOk ops = true) (hT : ∃ j, ops'.size ≤ j ∧ j < ops.size ∧ T j = false)
    (hng : ∀ (i : Nat) o, ops'[i]? = some o → o.guard = none) (hfr : ∀ (i : Nat) o, ops'[i]? = some o → FRop P o) (hk : b.kind ≠ .early)
    (hL : ∀ (fuel t : Nat) (listed listed' : Array Bool) (a : Act) (w : World) (i : Nat), Late ops ops' T listed listed' → ops'.size ≤ i → i ∈ Region.ready .any ops listed → wqAny P .any ops' Q fuel listed' a w →
      Go3 P m S (G (b.at a (.inRegion ops (i :: Region.linearise.go .any ops (R + fuel) t (listed.setIfInBounds i true) []) :: k)) cs) w) :
    ∀ (fuel t : Nat) (listed listed' : Array Bool) (a : Act) (w : World), Late ops ops' T listed listed' → wqAny P .any ops' Q fuel listed' a w →
      Go3 P m S (G (b.at a (.inRegion ops (Region.linearise.go .any ops (R + 1 + fuel) t listed []) :: k)) cs) w := by
  intro fuel
  induction fuel with
  | zero =>
    intro t listed listed' a w hl h
    have hne : Region.ready .any ops listed ≠ [] := fun hr => by
      obtain ⟨j, h1, h2, h3⟩ := hT
      have := all_listed hb hl.s hr j h2
      rw [hl.tail j h1 h2, h3] at this
      cases this
    simp only [Region.linearise.go]
    change Go3 P m S (G (b.at a (.inRegion ops (match (Region.ready .any ops listed)[t % (Region.ready .any ops listed).length]? with
      | some i => Region.linearise.go .any ops R (t / (Region.ready .any ops listed).length) (listed.setIfInBounds i true) [i]
      | none => [].reverse) :: k)) cs) w
    cases hi : (Region.ready .any ops listed)[t % (Region.ready .any ops listed).length]? with
    | none =>
      exfalso
      have hlt := Nat.mod_lt t (List.length_pos_iff.2 hne)
      rw [List.getElem?_eq_getElem hlt] at hi
      cases hi
    | some i =>
      simp only []
      rw [linearise_go_acc, List.reverse_singleton, List.singleton_append]
      have hmem := List.mem_of_getElem? hi
      by_cases hlt : i < ops'.size
      · have := ready_head hop hb' hl.s hl.s' hl.head hlt hmem
        rw [h.1] at this
        cases this
      · exact hL 0 _ listed listed' a w i hl (by omega) hmem h
  | succ fuel ih =>
    intro t listed listed' a w hl h
    have hne : Region.ready .any ops listed ≠ [] := fun hr => by
      obtain ⟨j, h1, h2, h3⟩ := hT
      have := all_listed hb hl.s hr j h2
      rw [hl.tail j h1 h2, h3] at this
      cases this
    rw [show R + 1 + (fuel + 1) = (R + (fuel + 1)) + 1 by omega]
    simp only [Region.linearise.go]
    change Go3 P m S (G (b.at a (.inRegion ops (match (Region.ready .any ops listed)[t % (Region.ready .any ops listed).length]? with
      | some i => Region.linearise.go .any ops (R + (fuel + 1)) (t / (Region.ready .any ops listed).length) (listed.setIfInBounds i true) [i]
      | none => [].reverse) :: k)) cs) w
    cases hi : (Region.ready .any ops listed)[t % (Region.ready .any ops listed).length]? with
    | none =>
      exfalso
      have hlt := Nat.mod_lt t (List.length_pos_iff.2 hne)
      rw [List.getElem?_eq_getElem hlt] at hi
      cases hi
    | some i =>
      simp only []
      rw [linearise_go_acc, List.reverse_singleton, List.singleton_append]
      have hmem := List.mem_of_getElem? hi
      by_cases hlt : i < ops'.size
      · have hm' := ready_head hop hb' hl.s hl.s' hl.head hlt hmem
        obtain ⟨_, o, g2, _⟩ := mem_ready.1 hm'
        have hs := hl.s
        have hs' := hl.s'
        rw [show R + (fuel + 1) = R + 1 + fuel by omega]
        refine go_op (Q := Q) (K := wqAny P .any ops' Q fuel (listed'.setIfInBounds i true)) (by rw [← hop i hlt]; exact g2) (hfr _ _ g2 a.eval fun _ => rfl) hk (fun w1 hx => ?_) fun a' w' h' => ih _ _ (listed'.setIfInBounds i true) a' w' ⟨by simpa using hs, by simpa using hs', fun j hj => ?_, fun j hj1 hj2 => ?_⟩ h'
        · have hd := h.2 i hm' w1 hx
          unfold wqOp at hd
          simp only [g2] at hd
          have hw : ∀ y, Region.wanted o y = true := fun y => by simp [Region.wanted, hng i o g2]
          rw [if_pos (hw _)] at hd ⊢
          exact hd.resolve_right id
        · rw [getD_set (by omega), getD_set (by omega)]
          split
          · rfl
          · exact hl.head j hj
        · rw [getD_set (by omega), if_neg (by omega)]
          exact hl.tail j hj1 hj2
      · exact hL (fuel + 1) _ listed listed' a w i hl (by omega) hmem h
end
end Go.Proofs.Ytgeflnjjppgooaa.Q

namespace Go.Proofs.Ytgeflnjjppgooaa.Q
open Go Go.Conc Go.RowKit Go.Proofs.Ytgeflnjjppgooaa.Y Go.Conc.Lib Go.ConcR.Gen Go.ConcN.Gen
attribute [-instance] phC
set_option linter.unusedSimpArgs false
set_option linter.unusedVariables false
section
variable [PhC] {P : Program} {n : Nat} {w0 : World} {O : List Ent} {E : Env} {o : Oper}
/-- The address of a cell of a list that is not looked at. -/
theorem yq_idxB {t e : TypeId} {x y : Operand} {b m c k : Nat} {i : Int} {kk : IntKind} (ho : o.op = .indexAddr t x y) (ht : P.underlying t = some (.slice e)) (hz : (P.info? e).map (·.size) = some 1)
    (hx : E.opd x = some (.slice (some ⟨b, 0, none⟩) m c)) (hy : E.opd y = some (.int kk i)) (hi : i = (k : Int)) (h1 : k < m) : YQ P w0 O E o (.pointer (some ⟨b, k, none⟩)) := by
  intro ρ w hE hw
  subst hi
  have e1 := cn_slice (hE.get (x := x) (by simp [ho, Op.operands]) hx)
  have e2 := cn_int (hE.get (x := y) (by simp [ho, Op.operands]) hy)
  have hr : (execOp ρ o).run P w = .ok (.value (.pointer (some ⟨b, k, none⟩))) w := by
    simp [execOp, ho, e1, e2, Instr.indexAt, asIntOf, run_underlying ht, h1, info_size hz, adr_add, adr]
  rw [hr]
  exact ⟨rfl, Below.refl _ _⟩
theorem any_sw {l : List Oper} {Q : Exit → Act → World → Prop} (π : List (Nat × Kd)) (hok : (permOk l.length π && pairsOk l.toArray π && backOk l.toArray) = true) (hA : ∀ j o, (j, 2) ∈ π → l[j]? = some o → AOk P n o)
    (h : SW P n w0 l.toArray (fun E O => VE n w0 O E Q .normal) π E O) {a : Act} {w : World} (ha : Models n E a) (hw : Hp w0 O w) : wqAny P .any l.toArray Q l.toArray.size (Array.replicate l.toArray.size false) a w := by
  simp only [Bool.and_eq_true] at hok
  obtain ⟨⟨h1, h2⟩, h3⟩ := hok
  obtain ⟨n1, n2⟩ := permOk_nodup h1
  have hlen : π.length = l.toArray.size := by
    simp only [permOk, Bool.and_eq_true, decide_eq_true_eq] at h1
    simpa using h1.1.2
  have hgd : ∀ {m j : Nat}, (Array.replicate m false).getD j false = false := fun {m j} => by
    rcases Nat.lt_or_ge j m with h | h
    · simp [h]
    · simp [h]
  refine any_of_walk (K := fun E O => VE n w0 O E Q .normal) (fun E E' O O' hE hO h a w ha hw => h a w (ha.mono fun t u ht => by rw [hE]; exact ht) (by simpa using hO [] w (by simpa using hw))) (fun _ _ h => h) h3 _ π _ E O a _ (by omega) (by simp) (fun j hj => ?_) n1 (fun j o _ hj => ?_) h2 (fun j o hj ho => hA j o hj (by simpa using ho)) h ha hw
  · simp only [List.size_toArray] at hj
    exact ⟨fun _ => n2 j hj, fun _ => by simp [hj]⟩
  · rw [hgd] at hj
    cases hj
theorem go_draw {m : Bool} {S : Goroutine → World → Prop} {ops : Array Oper} {id : Nat} {b : Frame} {a : Act} {k : List Item} {cs : List Frame} {v : World} (hm : P.follows .mixedOrders = true)
    (h : ∀ v1, Ext v v1 → ∀ t, Go3 P m S (G (b.at a (.inRegion ops (Region.linearise .any ops t) :: k)) cs) v1) : Go3 P m S (G (b.at a (.code (.region id ops true) :: k)) cs) v := by
  refine Go3.mk rfl fun w1 hx => ⟨G (b.at a (.inRegion ops (Region.schedule (P.follows .mixedOrders) ops (w1.tape w1.drawn (.order b.fn id))) :: k)) cs, w1.at (w1.drawn + 1), fun u hu => ?_, ?_⟩
  · refine ⟨u.at (u.drawn + 1), #[], ?_, ?_, by simp⟩
    · rw [stepG_region_draw, hu.rest]; rfl
    · have e : u.drawn = w1.drawn := by rw [hu.rest]
      rw [e]
      exact ⟨hu.at _, Nat.le_refl _, fun _ h => h, fun _ _ _ => ⟨rfl, rfl⟩, fun _ _ => Iff.rfl, rfl, rfl, rfl, fun _ c _ z h => ⟨c, z, h⟩, fun _ h => h⟩
  · simp only [Region.schedule, hm, Bool.true_or, if_true]
    exact h _ (hx.trans (Ext.drew _ _)) _
end
attribute [local instance] noPh
set_option maxRecDepth 20000
/-- What the workers of a call share. -/
structure WC where
  n : Nat
  q1 : Nat
  q2 : Nat
  q3 : Nat
  q4 : Nat
  bA : Nat
  bB : Nat
  a : Option Addr
  a1 : Option Addr
  a2 : Option Addr
  c : Nat
  c1 : Nat
  c2 : Nat
  f : Nat → Option Addr × Nat
  xss : List (List Nat)
  ws : List Nat
  gs : List Nat
namespace WC
variable (C : WC)
def N : Nat := (C.xss.getD 0 []).length
def nb : Nat := blocksN C.xss.length
def ka (k : Nat) : List Nat := blockA C.xss C.gs (k * 8) (min 8 (C.xss.length - k * 8)) C.N
def kb (k : Nat) : List Nat := blockB C.xss C.ws C.gs (k * 8) (min 8 (C.xss.length - k * 8)) C.N
structure Ok : Prop where
  hsz : bulk C.xss + C.ws.length + C.gs.length ≤ 1050000
  hval : ValidP C.xss C.ws C.gs
  hn : 1 ≤ C.n
  hn8 : C.n ≤ 8
  hAB : C.bA ≠ C.bB
structure Kn (w : World) : Prop where
  h1 : Cl w (some ⟨C.q1, 0, none⟩) [.slice C.a C.xss.length C.c, .slice C.a1 C.ws.length C.c1, .slice C.a2 C.gs.length C.c2]
  h2 : Cl w (some ⟨C.q2, 0, none⟩) [.int .i64 (C.n : Int)]
  h3 : Cl w (some ⟨C.q3, 0, none⟩) [.slice (some ⟨C.bA, 0, none⟩) C.nb C.nb]
  h4 : Cl w (some ⟨C.q4, 0, none⟩) [.slice (some ⟨C.bB, 0, none⟩) C.nb C.nb]
  hA : Cl w C.a (hd C.f C.xss)
  hR : Rws w C.f C.xss
  hW : Cl w C.a1 (fl C.ws)
  hG : Cl w C.a2 (fl C.gs)
variable {C}
theorem Kn.below {w w' : World} (h : C.Kn w) (hb : Below w.heap.size w w') : C.Kn w' := ⟨h.h1.below hb, h.h2.below hb, h.h3.below hb, h.h4.below hb, h.hA.below hb, h.hR.below hb, h.hW.below hb, h.hG.below hb⟩
variable (C)
def env (q0 k : Nat) : Env := [(5, .int .i64 (k : Int)), (0, .pointer (some (adr (some ⟨q0, 0, none⟩) 0))), (1, .pointer (some (adr (some ⟨C.q1, 0, none⟩) 0))), (2, .pointer (some (adr (some ⟨C.q2, 0, none⟩) 0))), (3, .pointer (some (adr (some ⟨C.q3, 0, none⟩) 0))), (4, .pointer (some (adr (some ⟨C.q4, 0, none⟩) 0)))]
abbrev eA (k x : Nat) : Ent := ⟨some ⟨x, 0, none⟩, fl (C.ka k), (C.N * C.N) * 1, 26⟩
abbrev eB (k x : Nat) : Ent := ⟨some ⟨x, 0, none⟩, fl (C.kb k), C.N * 1, 26⟩
/-- What a worker has made ahead of block k. -/
structure Got (i k : Nat) (σ : List (Addr × Value)) (v : World) : Prop where
  got : ∀ j, j < k → j < C.nb → j % C.n = i → ∃ x1 x2, ((⟨C.bA, j, none⟩, .slice (some ⟨x1, 0, none⟩) (C.N * C.N) (C.N * C.N)) : Addr × Value) ∈ σ ∧ ((⟨C.bB, j, none⟩, .slice (some ⟨x2, 0, none⟩) C.N C.N) : Addr × Value) ∈ σ ∧ (C.eA j x1).at 0 v ∧ (C.eB j x2).at 0 v
  key : ∀ p ∈ σ, ∃ j, j < k ∧ (p.1 = ⟨C.bA, j, none⟩ ∨ p.1 = ⟨C.bB, j, none⟩)
variable {C}
theorem Got.below {i k : Nat} {σ : List (Addr × Value)} {v w : World} (h : C.Got i k σ v) (hb : Below v.heap.size v w) : C.Got i k σ w :=
  ⟨fun j h1 h2 h3 => by obtain ⟨x1, x2, g1, g2, g3, g4⟩ := h.got j h1 h2 h3; exact ⟨x1, x2, g1, g2, g3.of_below hb, g4.of_below hb⟩, h.key⟩
end WC
noncomputable def L46 : Code := match Try.f46.body with | some (.seq _ (.block _ (.loop L))) => L | _ => .skip
noncomputable def H46 : Code := match L46 with | .seq x _ => x | _ => .skip
noncomputable def R46 : Code := match L46 with | .seq _ (.seq (.block _ x) _) => x | _ => .skip
noncomputable def T46 : Code := match L46 with | .seq _ (.seq _ x) => x | _ => .skip
noncomputable def ops46 : Array Oper := match R46 with | .region _ o _ => o | _ => #[]
noncomputable def hd46 : List Oper := ops46.toList.take 11
theorem body46 : Try.f46.body = some (.seq (match Try.f46.body with | some (.seq x _) => x | _ => .skip) (.block 0 (.loop L46))) := rfl
theorem sz30 : (Try.prog.info? 30).map (·.size) = some 3 := by kernel_rfl
theorem fb22 : flatB Try.prog 22 = true := by kernel_rfl
theorem fb3 : flatB Try.prog 3 = true := by kernel_rfl
theorem sz23 : (Try.prog.info? 23).map (·.size) = some 1 := by kernel_rfl
theorem known44 : Known Try.prog 44 := Known.mk' Try.func44 (by kernel_rfl)
theorem known47 : Known Try.prog 47 := Known.mk' Try.func47 (by kernel_rfl)
theorem mixed : Try.prog.follows .mixedOrders = true := by kernel_rfl
section
variable {C : WC} {q0 k : Nat} {v : World}
/-- The loop's head. -/
theorem head46 (H : C.Ok) (hK : C.Kn v) : V Try.prog 26 v [] (C.env q0 k) H46 (fun e a' w' => Models 26 (C.env q0 k) a' ∧ Below v.heap.size v w' ∧ ((e = .normal ∧ k < C.nb) ∨ (e = .exit 0 ∧ C.nb ≤ k))) := by
  obtain ⟨h1, h2, h3, h4, hA, hR, hW, hG⟩ := hK
  obtain ⟨hsz, hval, hn, hn8, hAB⟩ := H
  have hxl : C.xss.length ≤ bulk C.xss := by unfold bulk; omega
  refine V.seq ?_
  refine V.region ?_
  refine VL.r (.inl rfl) rfl (by decide) (yr_move rfl rfl) ?_
  refine VL.q (.inl rfl) rfl (by decide) (yq_loadS rfl Try.underlying30 sz30 rfl (Sees.root h1) rfl rfl rfl) ?_
  refine VL.q (.inl rfl) rfl (by decide) (yq_callf rfl known44 (.cons rfl .nil) (fun w hw => (c_blocks (by omega)))) ?_
  refine VL.r (.inl rfl) rfl (by decide) (yr_icmp rfl (.inr (.inr (.inl rfl))) rfl rfl) ?_
  refine VL.nil ?_
  refine VE.then_wp ?_
  refine V.cond rfl (fun h1 => ?_) (fun h1 => ?_)
  · replace h1 := ic_lss h1
    refine V.skip fun a' w' ha hw => ⟨ha.mono (Cov.get (.cons rfl (.cons rfl (.cons rfl (.cons rfl (.cons rfl (.cons rfl .nil))))))), hw.below, .inl ⟨rfl, ?_⟩⟩
    unfold WC.nb
    omega
  · replace h1 := ic_lss' h1
    refine V.exit fun a' w' ha hw => ⟨ha.mono (Cov.get (.cons rfl (.cons rfl (.cons rfl (.cons rfl (.cons rfl (.cons rfl .nil))))))), hw.below, .inr ⟨rfl, ?_⟩⟩
    unfold WC.nb
    omega
def WC.mid (C : WC) (q0 k x1 x2 : Nat) : Env := (22, .slice (some ⟨x1, 0, none⟩) (C.N * C.N) (C.N * C.N)) :: (23, .slice (some ⟨x2, 0, none⟩) C.N C.N) :: (24, .pointer (some ⟨C.bA, k, none⟩)) :: (17, .slice (some ⟨C.bB, 0, none⟩) C.nb C.nb) :: (18, .int .i64 (k : Int)) :: C.env q0 k
theorem le_len (hk : k < C.nb) : k * 8 ≤ C.xss.length := by
  unfold WC.nb blocksN at hk
  omega
/-- The part of a round that is drawn. -/
theorem mid46 (H : C.Ok) (hK : C.Kn v) (hk : k < C.nb) {a : Act} (ha : Models 26 (C.env q0 k) a) {w : World} (hw : Below v.heap.size v w) : wqAny Try.prog .any hd46.toArray (fun e a' w' => e = .normal ∧ ∃ x1 x2, Models 26 (C.mid q0 k x1 x2) a' ∧ Hp v [C.eB k x2, C.eA k x1] w') hd46.toArray.size (Array.replicate hd46.toArray.size false) a w := by
  have hle := le_len hk
  obtain ⟨h1, h2, h3, h4, hA, hR, hW, hG⟩ := hK
  obtain ⟨hsz, hval, hn, hn8, hAB⟩ := H
  refine any_sw (w0 := v) (O := []) [(0, 0), (1, 0), (2, 0), (3, 0), (4, 0), (5, 0), (6, 1), (7, 0), (8, 0), (9, 0), (10, 0)] (by kernel_rfl) (by intro j o hj; simp at hj) ?_ ha ⟨hw, (fun _ h => by cases h), .nil⟩
  refine SW.q rfl (.inl rfl) rfl (by decide) (yq_load rfl fb22 rfl (Sees.root h3) rfl) ?_
  refine SW.r rfl (.inl rfl) rfl (by decide) (yr_move rfl rfl) ?_
  refine SW.q rfl (.inl rfl) rfl (by decide) (yq_load rfl fb22 rfl (Sees.root h4) rfl) ?_
  refine SW.r rfl (.inl rfl) rfl (by decide) (yr_move rfl rfl) ?_
  refine SW.q rfl (.inl rfl) rfl (by decide) (yq_loadS rfl Try.underlying30 sz30 rfl (Sees.root h1) rfl rfl rfl) ?_
  refine SW.r rfl (.inl rfl) rfl (by decide) (yr_move rfl rfl) ?_
  refine SW.new rfl (.inl rfl) rfl (by decide) (yn_callf rfl known47 (.cons rfl (.cons rfl .nil)) (fun w hw => (c_block (blk := k) (Sees.root hA w hw) (hR.root hw) (Sees.root hW w hw) (Sees.root hG w hw) hsz hval rfl rfl rfl hle))) ?_
  rintro ⟨x1, x2⟩
  refine SW.r rfl (.inl rfl) rfl (by decide) (yr_move rfl rfl) ?_
  refine SW.r rfl (.inl rfl) rfl (by decide) (yr_extract rfl rfl rfl (by nofun)) ?_
  refine SW.r rfl (.inl rfl) rfl (by decide) (yr_extract rfl rfl rfl (by nofun)) ?_
  refine SW.q rfl (.inl rfl) rfl (by decide) (yq_idxB (k := k) rfl Try.underlying22 sz23 rfl rfl rfl hk) ?_
  exact fun a' w' ha hw => ⟨rfl, x1, x2, ha.mono (Cov.get (.cons rfl (.cons rfl (.cons rfl (.cons rfl (.cons rfl (.cons rfl (.cons rfl (.cons rfl (.cons rfl (.cons rfl (.cons rfl .nil)))))))))))), hw⟩
/-- The round's end: on to the worker's next block. -/
theorem tail46 (H : C.Ok) (hK : C.Kn v) (hk : k < C.nb) : V Try.prog 26 v [] (C.env q0 k) T46 (fun e a' w' => e = .normal ∧ Models 26 (C.env q0 (k + C.n)) a' ∧ Below v.heap.size v w') := by
  obtain ⟨h1, h2, h3, h4, hA, hR, hW, hG⟩ := hK
  obtain ⟨hsz, hval, hn, hn8, hAB⟩ := H
  have hxl : C.xss.length ≤ bulk C.xss := by unfold bulk; omega
  have hb : C.nb ≤ 1050007 := by unfold WC.nb; have := blocksN_le C.xss.length; omega
  refine V.region ?_
  refine VL.r (.inl rfl) rfl (by decide) (yr_move rfl rfl) ?_
  refine VL.q (.inl rfl) rfl (by decide) (yq_load rfl fb3 rfl (Sees.root h2) rfl) ?_
  refine VL.r (.inl rfl) rfl (by decide) (yr_int rfl rfl rfl (.inl ⟨rfl, wrap_in (by omega)⟩)) ?_
  refine VL.r (.inl rfl) rfl (by decide) (yr_assign rfl rfl) ?_
  refine VL.nil fun a' w' ha hw => ⟨rfl, ha.mono (Cov.get (.cons ?_ (.cons rfl (.cons rfl (.cons rfl (.cons rfl (.cons rfl .nil))))))), hw.below⟩
  exact congrArg (fun i => some (Value.int .i64 i)) (by omega)
end
end Go.Proofs.Ytgeflnjjppgooaa.Q

namespace Go.Proofs.Ytgeflnjjppgooaa.Q
open Go Go.Conc Go.RowKit Go.Proofs.Ytgeflnjjppgooaa.Y Go.Conc.Lib Go.ConcR.Gen Go.ConcN.Gen
attribute [-instance] phC
attribute [local instance] noPh
set_option maxRecDepth 20000
set_option linter.unusedSimpArgs false
set_option linter.unusedVariables false
theorem store_slice {P : Program} {m : Bool} {b : Frame} {a : Act} {k : List Item} {cs : List Frame} {ops : Array Oper} {i : Nat} {rest : List Nat} {o : Oper} {t : TypeId} {x y : Operand} {ad : Addr} {p : Option Addr} {l c : Nat} (ho : ops[i]? = some o) (hw : Region.wanted o (yielded ops a.tmps) = true) (hk : b.kind ≠ .early) (hop : o.op = .store t x y) (ht : flatB P t = true) (hs : (P.info? t).map (·.size) = some 1) (hd : o.dst = none)
    (hx : a.eval x = .pointer (some ad)) (hy : a.eval y = .slice p l c) (hq : (P.funcs[b.fn]?).any (·.norace) = false) (w : World) (z : Value) (hc : w.cell? ad = some z) (hz : w.frozen? ad = false) :
    stepG P m (G (b.at a (.inRegion ops (i :: rest) :: k)) cs) w = .go (G (b.at a (.inRegion ops rest :: k)) cs) (w.setCell ad (.slice p l c)) #[⟨.cell ad, true, false⟩] := by
  have hr : (execOp a.eval o).run P w = .ok .skip (w.setCell ad (.slice p l c)) := by
    unfold execOp
    simp only [hop, hx, hy]
    simp [go_sem, stored, hc, hz, run_isAgg_flat ht, info_size hs]
  have he : (execOp a.eval o).events P w #[] = #[⟨.cell ad, true, false⟩] := by
    unfold execOp
    simp only [hop, hx, hy]
    have h1 : (store ad (.slice p l c)).events P w #[] = #[⟨.cell ad, true, false⟩] := by
      rw [events_store (hv := rfl)]
      simp [storedEv, hc, hz]
    simp [go_sem, hc, hz, run_isAgg_flat ht, info_size hs, h1]
  rw [stepG_none ho hw hk hr]
  unfold listed
  rw [he, seen_eq hq (by simp), hd]
  rfl
theorem lin_one {ops : Array Oper} {f t i : Nat} {L : Array Bool} {acc : List Nat} (hr : Region.ready .any ops L = [i]) : Region.linearise.go .any ops (f + 1) t L acc = Region.linearise.go .any ops f t (L.setIfInBounds i true) (i :: acc) := by
  simp only [Region.linearise.go]
  change (match (Region.ready .any ops L)[t % (Region.ready .any ops L).length]? with
      | some i => Region.linearise.go .any ops f (t / (Region.ready .any ops L).length) (L.setIfInBounds i true) (i :: acc)
      | none => acc.reverse) = _
  rw [hr]
  simp [Nat.mod_one]
theorem lin_none {ops : Array Oper} {f t : Nat} {L : Array Bool} {acc : List Nat} (hr : Region.ready .any ops L = []) : Region.linearise.go .any ops f t L acc = acc.reverse := by
  cases f with
  | zero => rfl
  | succ f =>
    simp only [Region.linearise.go]
    change (match (Region.ready .any ops L)[t % (Region.ready .any ops L).length]? with
      | some i => Region.linearise.go .any ops f (t / (Region.ready .any ops L).length) (L.setIfInBounds i true) (i :: acc)
      | none => acc.reverse) = _
    rw [hr]
    rfl
theorem late46 {i j : Nat} {o : Oper} (hi : 11 ≤ i) (ho : ops46[i]? = some o) (hj : j < i) (hx : i = 11 → j ≠ 3 ∧ j ≠ 9) : ∃ e ∈ o.after, Region.binds .any e = true ∧ e.on = j := by
  have h : ((List.range 14).all fun i => decide (i < 11) || (match ops46[i]? with | some o => (List.range i).all fun j => (decide (i = 11) && (decide (j = 3) || decide (j = 9))) || o.after.any fun e => Region.binds .any e && e.on == j | none => true)) = true := by kernel_rfl
  have e3 : ops46.size = 14 := by kernel_rfl
  have hlt := (Array.getElem?_eq_some_iff.1 ho).1
  have h1 := List.all_eq_true.1 h i (List.mem_range.2 (by omega))
  rw [ho, decide_eq_false (by omega), Bool.false_or] at h1
  have h2 := List.all_eq_true.1 h1 j (List.mem_range.2 hj)
  rw [Bool.or_eq_true] at h2
  rcases h2 with h2 | h2
  · simp at h2
    obtain ⟨g1, g2⟩ := h2
    have := hx g1
    omega
  · obtain ⟨e, he, h3⟩ := Array.any_eq_true'.1 h2
    simp only [Bool.and_eq_true, beq_iff_eq] at h3
    exact ⟨e, he, h3⟩
theorem sz46 : ops46.size = 14 := by kernel_rfl
theorem szh46 : hd46.toArray.size = 11 := by kernel_rfl
/-- A late operation comes up: what it waits for is listed. -/
theorem up46 {T : Nat → Bool} {listed listed' : Array Bool} {i : Nat} (hl : Late ops46 hd46.toArray T listed listed') (hi : 11 ≤ i) (h : i ∈ Region.ready .any ops46 listed) : i < 14 ∧ T i = false ∧ (∀ j, j < 11 → (i = 11 → j ≠ 3 ∧ j ≠ 9) → listed'.getD j false = true) ∧ ∀ j, 11 ≤ j → j < i → T j = true := by
  obtain ⟨h1, o, h2, h3⟩ := mem_ready.1 h
  have hlt := (Array.getElem?_eq_some_iff.1 h2).1
  have e3 := sz46
  have e4 := szh46
  have hs := hl.s
  refine ⟨by omega, ?_, fun j hj hx => ?_, fun j hj1 hj2 => ?_⟩
  · rw [← hl.tail i (by omega) hlt]
    exact getDb h1
  · obtain ⟨e, he, hb, rfl⟩ := late46 hi h2 (by omega) hx
    rw [← hl.head e.on (by omega)]
    exact h3 e he hb
  · obtain ⟨e, he, hb, rfl⟩ := late46 hi h2 hj2 (by omega)
    rw [← hl.tail e.on (by omega) (by omega)]
    exact h3 e he hb
def Agr (a0 a : Act) : Prop := ∀ t, t ≠ 18 → t ≠ 23 → a.tmps[t]? = a0.tmps[t]?
theorem op39 {i : Nat} {a : Act} {w : World} {K : Act → World → Prop} {Q : Exit → Act → World → Prop} (hi : i = 3 ∨ i = 9) (h : wqOp Try.prog hd46.toArray Q i K a w) :
    ∃ d v, (d = 18 ∨ d = 23) ∧ K (a.put (some d) v) w ∧ ∀ K' Q', K' (a.put (some d) v) w → wqOp Try.prog hd46.toArray Q' i K' a w := by
  rcases hi with rfl | rfl
  · obtain ⟨o, ho, hop, hd, hg⟩ : ∃ o, hd46.toArray[3]? = some o ∧ o.op = .move (.tmp 5) ∧ o.dst = some 18 ∧ o.guard = none := ⟨_, rfl, rfl, rfl, rfl⟩
    have hr : (execOp a.eval o).run Try.prog w = .ok (.value (a.eval (.tmp 5))) w := by simp [execOp, hop]
    have hw : ∀ y, Region.wanted o y = true := fun y => by simp [Region.wanted, hg]
    unfold wqOp at h ⊢
    simp only [ho] at h ⊢
    rw [if_pos (hw _)] at h
    have h := h.resolve_right id
    unfold OperWq at h
    rw [hr] at h
    replace h : K (a.put o.dst _) w := h
    rw [hd] at h
    refine ⟨18, _, .inl rfl, h, fun K' Q' hk => ?_⟩
    rw [if_pos (hw _)]
    refine .inl ?_
    unfold OperWq
    rw [hr]
    show K' (a.put o.dst _) w
    rw [hd]; exact hk
  · obtain ⟨o, ho, hop, hd, hg⟩ : ∃ o, hd46.toArray[9]? = some o ∧ o.op = .extract (.tmp 14) 1 ∧ o.dst = some 23 ∧ o.guard = none := ⟨_, rfl, rfl, rfl, rfl⟩
    have hw : ∀ y, Region.wanted o y = true := fun y => by simp [Region.wanted, hg]
    unfold wqOp at h ⊢
    simp only [ho] at h ⊢
    rw [if_pos (hw _)] at h
    have h := h.resolve_right id
    unfold OperWq at h
    have hr : (∃ u, (execOp a.eval o).run Try.prog w = .ok (.value u) w) ∨ uponQ Try.prog o a K ((execOp a.eval o).run Try.prog w) = False := by
      simp only [execOp, hop, Instr.extract]
      split
      · split
        · exact .inl ⟨_, by simp; rfl⟩
        · exact .inr (by simp [uponQ])
      · exact .inr (by simp [uponQ])
    rcases hr with ⟨u, hr⟩ | hr
    · rw [hr] at h
      replace h : K (a.put o.dst _) w := h
      rw [hd] at h
      refine ⟨23, _, .inr rfl, h, fun K' Q' hk => ?_⟩
      rw [if_pos (hw _)]
      refine .inl ?_
      unfold OperWq
      rw [hr]
      show K' (a.put o.dst _) w
      rw [hd]; exact hk
    · rw [hr] at h; exact h.elim
theorem agr_put {a0 a : Act} {d : Nat} {v : Value} (h : Agr a0 a) (hd : d = 18 ∨ d = 23) : Agr a0 (a.put (some d) v) := by
  intro t h1 h2
  rw [← h t h1 h2]
  simp only [Act.put]
  exact Array.getElem?_setIfInBounds_ne (by omega)
theorem is39 {listed' : Array Bool} (hs : listed'.size = 11) (hj : ∀ j, j < 11 → j ≠ 3 → j ≠ 9 → listed'.getD j false = true) {i : Nat} (h : i ∈ Region.ready .any hd46.toArray listed') : i = 3 ∨ i = 9 := by
  obtain ⟨h1, o, h2, h3⟩ := mem_ready.1 h
  have hlt := (Array.getElem?_eq_some_iff.1 h2).1
  have e4 := szh46
  apply Classical.byContradiction
  intro hn
  have := hj i (by omega) (by omega) (by omega)
  rw [getDb h1] at this
  cases this
theorem set39 {listed' : Array Bool} {i : Nat} (hs : listed'.size = 11) (hj : ∀ j, j < 11 → j ≠ 3 → j ≠ 9 → listed'.getD j false = true) (hi : i = 3 ∨ i = 9) : (listed'.setIfInBounds i true).size = 11 ∧ ∀ j, j < 11 → j ≠ 3 → j ≠ 9 → (listed'.setIfInBounds i true).getD j false = true :=
  ⟨by simpa using hs, fun j h1 h2 h3 => by rw [getD_set (by omega), if_neg (by omega)]; exact hj j h1 h2 h3⟩
/-- Only two quiet operations are left: what they leave alone stays. -/
theorem frame46 {Q : Exit → Act → World → Prop} (hQ : ∀ a w w1, Ext w w1 → Q .normal a w → Q .normal a w1) {a0 : Act} : ∀ (fuel : Nat) (listed' : Array Bool) (a : Act) (w w1 : World), listed'.size = 11 → (∀ j, j < 11 → j ≠ 3 → j ≠ 9 → listed'.getD j false = true) → Agr a0 a → Ext w w1 →
    wqAny Try.prog .any hd46.toArray Q fuel listed' a w → wqAny Try.prog .any hd46.toArray (fun e a w => Q e a w ∧ Agr a0 a) fuel listed' a w1 := by
  intro fuel
  induction fuel with
  | zero => exact fun listed' a w w1 _ _ h3 hx h => ⟨h.1, hQ _ _ _ hx h.2, h3⟩
  | succ fuel ih =>
    intro listed' a w w1 h1 h2 h3 hx h
    refine ⟨fun hr => ⟨hQ _ _ _ hx (h.1 hr), h3⟩, fun i hi w2 hx2 => ?_⟩
    have hi' := is39 h1 h2 hi
    obtain ⟨d, v, g1, g2, g3⟩ := op39 hi' (h.2 i hi w2 (hx.trans hx2))
    exact g3 _ _ (ih _ _ _ _ (set39 h1 h2 hi').1 (set39 h1 h2 hi').2 (agr_put h3 g1) (Ext.refl _) g2)
theorem finish46 {Q : Exit → Act → World → Prop} : ∀ (fuel : Nat) (listed' : Array Bool) (a : Act) (w : World), listed'.size = 11 → (∀ j, j < 11 → j ≠ 3 → j ≠ 9 → listed'.getD j false = true) → wqAny Try.prog .any hd46.toArray Q fuel listed' a w → ∃ a2, Q .normal a2 w := by
  intro fuel
  induction fuel with
  | zero => exact fun listed' a w _ _ h => ⟨a, h.2⟩
  | succ fuel ih =>
    intro listed' a w h1 h2 h
    cases hr : Region.ready .any hd46.toArray listed' with
    | nil => exact ⟨a, h.1 hr⟩
    | cons i l =>
      have hi : i ∈ Region.ready .any hd46.toArray listed' := by rw [hr]; exact List.mem_cons_self
      have hi' := is39 h1 h2 hi
      obtain ⟨d, v, g1, g2, g3⟩ := op39 hi' (h.2 i hi w (Ext.refl _))
      exact ih _ _ _ (set39 h1 h2 hi').1 (set39 h1 h2 hi').2 g2
theorem hop46 : ∀ i, i < hd46.toArray.size → hd46.toArray[i]? = ops46[i]? := by
  intro i hi
  have e : hd46.toArray.size = 11 := by kernel_rfl
  rw [List.getElem?_toArray, hd46, List.getElem?_take_of_lt (by omega), Array.getElem?_toList]
theorem hng46 : ∀ (i : Nat) o, hd46.toArray[i]? = some o → o.guard = none := by
  intro i o ho
  have h : (hd46.all fun o => o.guard.isNone) = true := by kernel_rfl
  have := List.all_eq_true.1 h o (List.mem_of_getElem? (by simpa using ho))
  simpa using this
theorem rep_getD {m j : Nat} : (Array.replicate m false).getD j false = false := by
  rcases Nat.lt_or_ge j m with h | h
  · simp [h]
  · simp [h]
theorem fbS : flatB Try.prog 23 = true := by kernel_rfl
theorem szS : (Try.prog.info? 23).map (·.size) = some 1 := sz23
theorem _root_.Go.Proofs.Ytgeflnjjppgooaa.Ent.at.zero {B : Nat} {w : World} {e : Ent} (h : e.at B w) : e.at 0 w := h.imp_right fun ⟨b, c, h1, _, h3⟩ => ⟨b, c, h1, Nat.zero_le _, h3⟩
theorem loud46 : (Try.prog.funcs[(base 46).fn]?).any (·.norace) = false := by kernel_rfl
section
variable {C : WC} {D : Sc} {i W q0 : Nat} {p0 p1 : Addr} {cap : Array Value} {opsG : Array Oper}
noncomputable abbrev csW (p0 p1 : Addr) (cap : Array Value) (opsG : Array Oper) : List Frame := [goB.at ⟨goT p0 p1 46 cap undef, [dnV p0]⟩ [.inRegion opsG [1]], botF Try.prog]
theorem exit46 (hG : (opsG[1]?).bind (·.dst) = some 4) (H : C.Ok) (hD : D.ty = lnk.tWg) (hW : D.Wg = W) (hfin : ∀ σ v k, C.nb ≤ k → C.Got i k σ v → D.fin i σ v) {k : Nat} (_hki : k % C.n = i) (hk : C.nb ≤ k) :
    ∃ r, ∀ σ a v, Models 26 (C.env q0 k) a → C.Kn v → v.cell? p0 = some (.pointer (some ⟨W, 0, none⟩)) → C.Got i k σ v →
      Go3 Try.prog false (WkStop Try.prog D i r σ) (G ((base 46).at a [.code L46, .inLoop L46, .inBlock 0]) (csW p0 p1 cap opsG)) v := by
    refine ⟨0, fun σ a v ha hK hp0 hg => ?_⟩
    refine Go3.ctl (g' := G ((base 46).at a [.code H46, .code (.seq (.block 1 R46) T46), .inLoop L46, .inBlock 0]) (csW p0 p1 cap opsG)) rfl (fun _ => stepG_seq) ?_
    refine (head46 H hK a v ha (Hp.refl v)) false _ _ _ _ (by decide) ?_
    rintro e a1 w1 ⟨h1, h2, ⟨rfl, h3⟩ | ⟨rfl, h3⟩⟩
    · omega
    refine ⟨[], rfl, ?_⟩
    refine .ctl rfl (fun _ => stepG_end) ?_
    refine go_leave0 rfl h1.defers Try.func46 rfl ?_
    rw [hG]
    obtain ⟨gA, g1, g2, g3⟩ := tail W p0 p1 46 cap (.tuple #[]) opsG
    exact g1 _ w1 ((h2.cell (World.block_lt_of_cell hp0)).trans hp0) fun v1 hx => ⟨g2, hfin σ v1 k h3 ((hg.below h2).below hx), g3 D hD hW⟩
theorem rounds46 (hG : (opsG[1]?).bind (·.dst) = some 4) (H : C.Ok) (hi : i < C.n) (hD : D.ty = lnk.tWg) (hW : D.Wg = W) (hown : ∀ j, j < C.nb → j % C.n = i → D.own i ⟨C.bA, j, none⟩ ∧ D.own i ⟨C.bB, j, none⟩) (hfin : ∀ σ v k, C.nb ≤ k → C.Got i k σ v → D.fin i σ v) :
    ∀ (d k : Nat), C.nb - k ≤ d → k % C.n = i → ∃ r, ∀ σ a v, Models 26 (C.env q0 k) a → C.Kn v → v.cell? p0 = some (.pointer (some ⟨W, 0, none⟩)) → C.Got i k σ v →
      Go3 Try.prog false (WkStop Try.prog D i r σ) (G ((base 46).at a [.code L46, .inLoop L46, .inBlock 0]) (csW p0 p1 cap opsG)) v := by
  intro d
  induction d with
  | zero => exact fun k hd hki => exit46 hG H hD hW hfin hki (by omega)
  | succ d ih =>
    intro k hd hki
    by_cases hk : k < C.nb
    case neg => exact exit46 hG H hD hW hfin hki (by omega)
    obtain ⟨r, ih⟩ := ih (k + C.n) (by have := H.hn; omega) (by rw [Nat.add_mod_right, hki])
    refine ⟨r + 2, fun σ a v ha hK hp0 hg => ?_⟩
    refine Go3.ctl (g' := G ((base 46).at a [.code H46, .code (.seq (.block 1 R46) T46), .inLoop L46, .inBlock 0]) (csW p0 p1 cap opsG)) rfl (fun _ => stepG_seq) ?_
    refine (head46 H hK a v ha (Hp.refl v)) false _ _ _ _ (by decide) ?_
    rintro e a1 w1 ⟨h1, h2, ⟨rfl, _⟩ | ⟨rfl, h3⟩⟩
    case inr => omega
    refine .ctl rfl (fun _ => stepG_seq) ?_
    refine .ctl rfl (fun _ => stepG_block) ?_
    refine go_draw (ops := ops46) (id := 3) mixed fun w2 hx2 t => ?_
    have hb2 : Below v.heap.size v w2 := h2.trans (hx2.mono h2.size)
    have e : Region.linearise .any ops46 t = Region.linearise.go .any ops46 (2 + 1 + 11) t (Array.replicate 14 false) [] := by unfold Region.linearise; rw [sz46]
    rw [e]
    have hm := mid46 H hK hk h1 hb2
    rw [szh46] at hm
    have hQ : ∀ (a : Act) (w w1 : World), Ext w w1 → ((Exit.normal = .normal) ∧ ∃ x1 x2, Models 26 (C.mid q0 k x1 x2) a ∧ Hp v [C.eB k x2, C.eA k x1] w) → ((Exit.normal = .normal) ∧ ∃ x1 x2, Models 26 (C.mid q0 k x1 x2) a ∧ Hp v [C.eB k x2, C.eA k x1] w1) := by
      rintro a w w1 hx ⟨g1, x1, x2, g2, g3⟩
      exact ⟨g1, x1, x2, g2, g3.ext hx⟩
    refine go_late (R := 2) (fun _ => false) (by rw [szh46, sz46]; decide) hop46 (by kernel_rfl) (by kernel_rfl) ⟨11, by rw [szh46]; decide, by rw [sz46]; decide, rfl⟩ hng46 (fr_all (by kernel_rfl)) (by decide) (fun fuel t listed listed' a3 w3 i9 hl hi9 hmem hw => ?_) 11 t _ (Array.replicate 11 false) a1 w2 ⟨by rw [sz46]; simp, by rw [szh46]; simp, fun j hj => ?_, fun j _ _ => ?_⟩ hm
    case refine_2 => rw [szh46] at hj; rw [rep_getD, rep_getD]
    case refine_3 => exact rep_getD
    rw [szh46] at hi9
    obtain ⟨u1, _, u3, u4⟩ := up46 hl hi9 hmem
    obtain rfl : i9 = 11 := by
      apply Classical.byContradiction
      intro hn
      have := u4 11 (by omega) (by omega)
      cases this
    have hs39 : ∀ j, j < 11 → j ≠ 3 → j ≠ 9 → listed'.getD j false = true := fun j h1 h2 h3 => u3 j h1 (fun _ => ⟨h2, h3⟩)
    have hsz : listed'.size = 11 := hl.s'.trans szh46
    have hf := frame46 hQ fuel listed' a3 w3 w3 hsz hs39 (fun _ _ _ => rfl) (Ext.refl _) hw
    obtain ⟨a4, ⟨_, x1, x2, m1, m2⟩, agr⟩ := finish46 fuel listed' a3 w3 hsz hs39 hf
    have e24 : a3.eval (.tmp 24) = .pointer (some ⟨C.bA, k, none⟩) := by
      obtain ⟨v', g1, g2⟩ := m1.get 24 _ rfl
      rw [agr 24 (by decide) (by decide)] at g1
      simp [Act.eval, g1, cn_pointer g2]
    have e22 : a3.eval (.tmp 22) = .slice (some ⟨x1, 0, none⟩) (C.N * C.N) (C.N * C.N) := by
      obtain ⟨v', g1, g2⟩ := m1.get 22 _ rfl
      rw [agr 22 (by decide) (by decide)] at g1
      simp [Act.eval, g1, cn_slice g2]
    refine .stop fun v4 hx4 => ⟨rfl, ⟨C.bA, k, none⟩, .slice (some ⟨x1, 0, none⟩) (C.N * C.N) (C.N * C.N), _, ⟨(hown k hk hki).1, fun p hp e => ?_, fun w z hc hz => store_slice rfl rfl (by decide) rfl fbS szS rfl e24 e22 loud46 w z hc hz⟩, ?_⟩
    · obtain ⟨j, j1, j2 | j2⟩ := hg.key p hp
      · have := congrArg Addr.off (j2.symm.trans e); dsimp only at this; omega
      · exact H.hAB (congrArg Addr.block (j2.symm.trans e)).symm
    have hls := hl.s
    rw [sz46] at hls
    rw [show 2 + fuel = 1 + 1 + fuel by omega]
    refine go_late (R := 1) (fun j => decide (j = 11)) (by rw [szh46, sz46]; decide) hop46 (by kernel_rfl) (by kernel_rfl) ⟨12, by rw [szh46]; decide, by rw [sz46]; decide, rfl⟩ hng46 (fr_all (by kernel_rfl)) (by decide) (fun fuel2 t2 listed2 listed2' a5 w5 i9 hl2 hi9 hmem2 hw2 => ?_) fuel t _ listed' a3 v4 ⟨by rw [sz46]; simpa using hls, hl.s', fun j hj => ?_, fun j hj1 hj2 => ?_⟩ (frame46 hQ fuel listed' a3 w3 v4 hsz hs39 (fun _ _ _ => rfl) hx4 hw)
    case refine_2 =>
      rw [szh46] at hj
      rw [getD_set (by omega), if_neg (by omega)]
      exact hl.head j (by rw [szh46]; exact hj)
    case refine_3 =>
      rw [szh46] at hj1
      rw [sz46] at hj2
      rw [getD_set (by omega)]
      by_cases hj : j = 11
      · rw [if_pos hj.symm]; simp [hj]
      · rw [if_neg (fun h => hj h.symm), decide_eq_false hj]
        exact hl.tail j (by rw [szh46]; exact hj1) (by rw [sz46]; exact hj2)
    rw [szh46] at hi9
    obtain ⟨u1, u2, u3, u4⟩ := up46 hl2 hi9 hmem2
    have hi11 : i9 ≠ 11 := of_decide_eq_false u2
    obtain rfl : i9 = 12 := by
      apply Classical.byContradiction
      intro hn
      have := of_decide_eq_true (u4 12 (by omega) (by omega))
      omega
    have hr : Region.ready .any hd46.toArray listed2' = [] := by
      apply List.eq_nil_iff_forall_not_mem.2
      intro j hj
      obtain ⟨g1, o, g2, _⟩ := mem_ready.1 hj
      have hlt := (Array.getElem?_eq_some_iff.1 g2).1
      rw [szh46] at hlt
      have := u3 j hlt (by omega)
      rw [getDb g1] at this
      cases this
    have hq : (Exit.normal = .normal ∧ ∃ x1 x2, Models 26 (C.mid q0 k x1 x2) a5 ∧ Hp v [C.eB k x2, C.eA k x1] w5) ∧ Agr a3 a5 := by
      cases fuel2 with
      | zero => exact hw2.2
      | succ f => exact hw2.1 hr
    obtain ⟨⟨_, y1, y2, n1, n2⟩, agr2⟩ := hq
    obtain rfl : y1 = x1 := by
      obtain ⟨v', g1, g2⟩ := n1.get 22 _ rfl
      rw [agr2 22 (by decide) (by decide)] at g1
      have : a3.eval (.tmp 22) = .slice (some ⟨y1, 0, none⟩) (C.N * C.N) (C.N * C.N) := by simp [Act.eval, g1, cn_slice g2]
      rw [e22] at this
      simpa using this.symm
    have hL : listed2.setIfInBounds 12 true = Array.replicate 13 true ++ #[false] := by
      have hs2 := hl2.s
      rw [sz46] at hs2
      apply Array.ext
      · simp [hs2]
      intro j hj1 hj2
      have hj14 : j < 14 := by simpa [hs2] using hj1
      have key : (listed2.setIfInBounds 12 true).getD j false = if j < 13 then true else false := by
        rw [getD_set (by omega)]
        by_cases h12 : j = 12
        · simp [h12]
        rw [if_neg (fun h => h12 h.symm)]
        by_cases h11 : j < 11
        · rw [hl2.head j (by rw [szh46]; exact h11), u3 j h11 (by omega), if_pos (by omega)]
        · rw [hl2.tail j (by rw [szh46]; omega) (by rw [sz46]; exact hj14)]
          by_cases h13 : j = 11
          · simp [h13]
          · rw [decide_eq_false h13, if_neg (by omega)]
      have k2 : ∀ j, j < 14 → (Array.replicate 13 true ++ #[false]).getD j false = if j < 13 then true else false := by decide
      have := key.trans (k2 j hj14).symm
      rw [Array.getD_eq_getD_getElem?, Array.getD_eq_getD_getElem?, Array.getElem?_eq_getElem hj1, Array.getElem?_eq_getElem hj2] at this
      exact this
    rw [hL, show 1 + fuel2 = fuel2 + 1 by omega, lin_one (i := 13) (by kernel_rfl), lin_none (by kernel_rfl)]
    refine go_op (i := 12) (Q := fun _ _ _ => False) (K := fun a6 w6 => Models 26 ((25, .pointer (some ⟨C.bB, k, none⟩)) :: C.mid q0 k y1 y2) a6 ∧ Hp v [C.eB k y2, C.eA k y1] w6) rfl (frop_of (by kernel_rfl) _ fun _ => rfl) (by decide) (fun w6 hx6 => ?_) fun a6 w6 h6 => ?_
    · rw [if_pos (show Region.wanted _ _ = true from rfl)]
      unfold OperWq
      exact (yq_idxB (O := [C.eB k y2, C.eA k y1]) (w0 := v) (E := C.mid q0 k y1 y2) (k := k) rfl Try.underlying22 sz23 rfl rfl rfl hk a5.eval w6 (n1.ev _) (n2.ext hx6)).upon fun v' w' hv => ⟨n1.put (by decide) hv.1, (n2.ext hx6).ext hv.2⟩
    obtain ⟨n6, n7⟩ := h6
    have e25 : a6.eval (.tmp 25) = .pointer (some ⟨C.bB, k, none⟩) := by
      obtain ⟨v', g1, g2⟩ := n6.get 25 _ rfl
      simp [Act.eval, g1, cn_pointer g2]
    have e23 : a6.eval (.tmp 23) = .slice (some ⟨y2, 0, none⟩) C.N C.N := by
      obtain ⟨v', g1, g2⟩ := n6.get 23 _ rfl
      simp [Act.eval, g1, cn_slice g2]
    refine .stop fun v7 hx7 => ⟨rfl, ⟨C.bB, k, none⟩, .slice (some ⟨y2, 0, none⟩) C.N C.N, _, ⟨(hown k hk hki).2, fun p hp e => ?_, fun w z hc hz => store_slice rfl rfl (by decide) rfl fbS szS rfl e25 e23 loud46 w z hc hz⟩, ?_⟩
    · rcases List.mem_cons.1 hp with rfl | hp
      · exact H.hAB (congrArg Addr.block e)
      obtain ⟨j, j1, j2 | j2⟩ := hg.key p hp
      · exact H.hAB (congrArg Addr.block (j2.symm.trans e))
      · have := congrArg Addr.off (j2.symm.trans e); dsimp only at this; omega
    have n8 := n7.ext hx7
    refine .ctl rfl (fun _ => stepG_region_end) ?_
    refine .ctl rfl (fun _ => stepG_inBlock) ?_
    refine (tail46 (q0 := q0) H (hK.below n8.below) hk a6 v7 (n6.mono (Cov.get (.cons rfl (.cons rfl (.cons rfl (.cons rfl (.cons rfl (.cons rfl .nil)))))))) (Hp.refl v7)) false _ _ _ _ (by decide) ?_
    rintro e a8 w8 ⟨rfl, m8, b8⟩
    refine .ctl rfl (fun _ => stepG_inLoop) ?_
    have b9 : Below v.heap.size v w8 := n8.below.trans (b8.mono n8.below.size)
    refine ih _ a8 w8 m8 (hK.below b9) ((b9.cell (World.block_lt_of_cell hp0)).trans hp0) ⟨fun j h1 h2 h3 => ?_, fun p hp => ?_⟩
    · by_cases hjk : j < k
      · obtain ⟨z1, z2, g1, g2, g3, g4⟩ := hg.got j hjk h2 h3
        exact ⟨z1, z2, List.mem_cons_of_mem _ (List.mem_cons_of_mem _ g1), List.mem_cons_of_mem _ (List.mem_cons_of_mem _ g2), g3.of_below b9, g4.of_below b9⟩
      · obtain rfl : j = k := by
          apply Classical.byContradiction
          intro hne
          have hn := H.hn
          have hmod : (j - k) % C.n = 0 := Nat.sub_mod_eq_zero_of_mod_eq (h3.trans hki.symm)
          rw [Nat.mod_eq_of_lt (by omega)] at hmod
          omega
        exact ⟨y1, y2, List.mem_cons_of_mem _ List.mem_cons_self, List.mem_cons_self, ((n8.ents _ (List.mem_cons_of_mem _ List.mem_cons_self)).of_below b8).zero, ((n8.ents _ List.mem_cons_self).of_below b8).zero⟩
    · rcases List.mem_cons.1 hp with rfl | hp
      · exact ⟨k, by have := H.hn; omega, .inr rfl⟩
      rcases List.mem_cons.1 hp with rfl | hp
      · exact ⟨k, by have := H.hn; omega, .inl rfl⟩
      · obtain ⟨j, j1, j2⟩ := hg.key p hp
        exact ⟨j, by omega, j2⟩
end
end Go.Proofs.Ytgeflnjjppgooaa.Q

namespace Go.Proofs.Ytgeflnjjppgooaa.Q
open Go Go.Conc Go.RowKit Go.Proofs.Ytgeflnjjppgooaa.Y Go.Conc.Lib Go.ConcR.Gen Go.ConcN.Gen
attribute [-instance] phC
attribute [local instance] noPh
set_option maxRecDepth 20000
set_option linter.unusedSimpArgs false
set_option linter.unusedVariables false
abbrev WC.caps (C : WC) (q0 : Nat) : Array Value := #[.pointer (some ⟨q0, 0, none⟩), .pointer (some ⟨C.q1, 0, none⟩), .pointer (some ⟨C.q2, 0, none⟩), .pointer (some ⟨C.q3, 0, none⟩), .pointer (some ⟨C.q4, 0, none⟩)]
abbrev WC.fnv (C : WC) (q0 : Nat) : Value := fnV 46 (C.caps q0)
abbrev goD (p0 p1 : Addr) : Deferred := dV 73 #[.pointer (some p0), .pointer (some p1)]
theorem works {C : WC} {D : Sc} {i W q0 : Nat} {p0 p1 : Addr} {v : World} (H : C.Ok) (hi : i < C.n) (hD : D.ty = lnk.tWg) (hW : D.Wg = W) (hown : ∀ j, j < C.nb → j % C.n = i → D.own i ⟨C.bA, j, none⟩ ∧ D.own i ⟨C.bB, j, none⟩) (hfin : ∀ σ v k, C.nb ≤ k → C.Got i k σ v → D.fin i σ v)
    (hK : C.Kn v) (h0 : Cl v (some ⟨q0, 0, none⟩) [.int .i64 (i : Int)]) (hp0 : v.cell? p0 = some (.pointer (some ⟨W, 0, none⟩))) (hp1 : v.cell? p1 = some (C.fnv q0)) :
    ∃ r, Work Try.prog D i r [] (born Try.prog (goD p0 p1)) v := by
  obtain ⟨r, hr⟩ := rounds46 (p0 := p0) (p1 := p1) (q0 := q0) (cap := C.caps q0) (opsG := match Try.f73.body with | some (.seq _ (.region _ o _)) => o | _ => #[]) rfl H hi hD hW hown hfin (C.nb - i) i (Nat.le_refl _) (Nat.mod_eq_of_lt hi)
  refine ⟨r, ?_⟩
  unfold Work
  refine .ctl rfl (fun _ => born_in Try.func73 (by kernel_rfl) rfl _) ?_
  rw [show Try.f73.ntmps = 5 from rfl]
  walk_nrm
  refine .ctl rfl (fun _ => stepG_seq) ?_
  refine .ctl rfl (fun _ => stepG_region) ?_
  refine go_const (fnV 74 #[.pointer (some p0)]) rfl rfl (by decide) (fun _ => by simp [execOp, Instr.makeFunc, Act.eval]) (fun _ => by simp [execOp, Instr.makeFunc, Act.eval]) ?_
  walk_nrm
  refine .ctl rfl (fun _ => defer_step rfl rfl (by decide) rfl rfl) ?_
  refine .ctl rfl (fun _ => stepG_region_end) ?_
  refine .ctl rfl (fun _ => stepG_region) ?_
  refine go_pure (C.fnv q0) rfl rfl (by decide) (frop_of (by kernel_rfl) _ fun _ => rfl) (fun v1 hx => ?_) ?_
  · have h9 := (hx.cell (World.block_lt_of_cell hp1)).trans hp1
    simp [execOp, Instr.loadAt, Instr.sureAddr, loadVar, Act.eval, Act.put, Try.isAgg1, h9]
  refine go_in (C.caps q0) Try.func46 body46 rfl rfl (by decide) (VEv.fr ⟨.tmp 3, #[], #[], 46, #[], C.caps q0, Try.f46, rfl, rfl, Try.func46, by kernel_rfl⟩) (fun v1 hx => ?_) ?_
  · simp [execOp, resolve, Deferred.ofValue, invoke, callFunc, Act.eval, Act.put, Try.func46, Try.f46]
  refine .ctl rfl (fun _ => stepG_seq) ?_
  have hm : Models 26 (argsFrom 0 [.pointer (some (adr (some ⟨q0, 0, none⟩) 0)), .pointer (some (adr (some ⟨C.q1, 0, none⟩) 0)), .pointer (some (adr (some ⟨C.q2, 0, none⟩) 0)), .pointer (some (adr (some ⟨C.q3, 0, none⟩) 0)), .pointer (some (adr (some ⟨C.q4, 0, none⟩) 0))]) { tmps := C.caps q0 ++ Array.replicate (26 - (C.caps q0).size) undef, defers := [] } := models_args rfl (Nat.le_of_ble_eq_true rfl)
  have hV : V Try.prog 26 v [] (argsFrom 0 [.pointer (some (adr (some ⟨q0, 0, none⟩) 0)), .pointer (some (adr (some ⟨C.q1, 0, none⟩) 0)), .pointer (some (adr (some ⟨C.q2, 0, none⟩) 0)), .pointer (some (adr (some ⟨C.q3, 0, none⟩) 0)), .pointer (some (adr (some ⟨C.q4, 0, none⟩) 0))])
      (match Try.f46.body with | some (.seq x _) => x | _ => .skip) (fun e a' w' => e = .normal ∧ Models 26 (C.env q0 i) a' ∧ Below v.heap.size v w') := by
    refine V.region ?_
    refine VL.q (.inl rfl) rfl (by decide) (yq_load rfl fb3 rfl (Sees.root h0) rfl) ?_
    refine VL.r (.inl rfl) rfl (by decide) (yr_assign rfl rfl) ?_
    refine VL.nil fun a' w' ha hw => ⟨rfl, ha.mono (Cov.get (.cons rfl (.cons rfl (.cons rfl (.cons rfl (.cons rfl (.cons rfl .nil))))))), hw.below⟩
  refine (hV _ v hm (Hp.refl v)) false _ _ _ _ (by decide) ?_
  rintro e a1 w1 ⟨rfl, h1, h2⟩
  refine .ctl rfl (fun _ => stepG_block) ?_
  refine .ctl rfl (fun _ => stepG_loop) ?_
  exact hr [] a1 w1 h1 (hK.below h2) ((h2.cell (World.block_lt_of_cell hp0)).trans hp0) ⟨fun j h1 h2 h3 => by rw [Nat.mod_eq_of_lt (by omega)] at h3; omega, fun p hp => by cases hp⟩
end Go.Proofs.Ytgeflnjjppgooaa.Q

namespace Go.Proofs.Ytgeflnjjppgooaa.Y
open Go Go.Conc Go.ConcN Go.RowKit Go.Conc.Lib Go.ConcR.Gen Go.ConcN.Gen
open Go.ConcR (KK wgBlock WgAt stA smA rd wr mk DC0)
set_option linter.unusedVariables false
set_option linter.unusedSimpArgs false
variable {L : WgLink} {P : Program} {Wg : Nat} {After : Goroutine → Prop} {b₀ : Frame} {a₀ : Act} {ops₀ : Array Oper} {i₀ : Nat} {rest₀ : List Nat} {k₀ : List Item} {cs : List Frame}
theorem rlx {ty : TypeId} {w w₁ : World} (h : WgLive ty Wg w) (r : RL ty Wg w w₁) : WgLive ty Wg w₁ := r h
/-- A step that is the same in every world may be taken ahead of what is asked. -/
def Early (P : Program) (After : Goroutine → Prop) : Prop := ∀ g g' : Goroutine, g.status = .running → (∀ w, stepG P true g w = .go g' w) → After g' → After g
theorem aft_value {b : Frame} {a : Act} {k : List Item} (hA : Early P After) {ops : Array Oper} {i : Nat} {rest : List Nat} {o : Oper} (v : Value) (ho : ops[i]? = some o) (hw : Region.wanted o (yielded ops a.tmps) = true) (hk : b.kind ≠ .early)
    (hr : ∀ w, (execOp a.eval o).run P w = .ok (.value v) w) (he : ∀ w, (execOp a.eval o).events P w #[] = #[]) (h : After (G (b.at (a.put o.dst v) (.inRegion ops rest :: k)) cs)) : After (G (b.at a (.inRegion ops (i :: rest) :: k)) cs) :=
  hA _ _ rfl (fun w => by rw [stepG_value ho hw hk (hr w)]; unfold listed; rw [he w, seen_none]) h
set_option maxRecDepth 100000 in
set_option maxHeartbeats 8000000 in
/-- Add(1), in whatever company. -/
theorem addM (H : WgLib P L) (hA : Early P After) (hT : After (G (b₀.at (a₀.put ((ops₀[i₀]?).bind (·.dst)) (.tuple #[])) (.inRegion ops₀ rest₀ :: k₀)) cs)) :
    LAdd P L.tWg Wg After (G ((base L.add).at ⟨#[.pointer (some ⟨Wg, 0, none⟩), .int .i64 1, undef, undef, undef, undef, undef, undef, undef, undef, undef, undef, undef, undef, undef, undef, undef, undef, undef, undef, undef, undef, undef, undef, undef, undef, undef, undef, undef, undef, undef, undef, undef, undef, undef, undef, undef, undef, undef, undef, undef, undef, undef, undef, undef, undef, undef, undef, undef, undef, undef, undef, undef, undef, undef, undef, undef, undef, undef, undef, undef, undef, undef, undef, undef, undef, undef, undef, undef, undef, undef, undef, undef, undef, undef, undef, undef, undef, undef, undef, undef, undef, undef, undef, undef, undef, undef, undef, undef, undef, undef, undef, undef, undef, undef, undef, undef, undef, undef, undef, undef, undef, undef, undef, undef, undef, undef, undef, undef, undef, undef, undef, undef, undef, undef, undef, undef], []⟩ [.code (body_add L)]) (b₀.at a₀ (.inRegion ops₀ (i₀ :: rest₀) :: k₀) :: cs)) := by
  intro w hF
  refine ⟨12, ?_⟩
  lib_facts
  simp only [body_add, addFn, Option.getD_some]
  u_c stepG_seq rlx hF
  u_cnd true rlx hF
  u_c stepG_seq rlx hF
  u_c stepG_seq rlx hF
  u_reg rlx hF
  u_op rlx hF
  u_op rlx hF
  u_c stepG_region_end rlx hF
  u_cnd false rlx hF
  u_c stepG_skip rlx hF
  u_c stepG_seq rlx hF
  u_reg rlx hF
  refine Goes.stop (fun w1 h1 => ?_)
  replace hF := rlx hF h1
  clear h1
  refine ⟨rfl, _, stepG_mark0 .disable (by simp) rfl rfl (by k_ne) rfl H.f_disable (x_disable_n L) (x_disable_b L) (x_disable_x L) (x_disable_f L), 40, ?_⟩
  walk_nrm
  u_c stepG_region_end rlx hF
  u_reg rlx hF
  u_defer rlx hF
  u_c stepG_region_end rlx hF
  u_c stepG_seq rlx hF
  u_reg rlx hF
  u_op rlx hF
  u_c stepG_region_end rlx hF
  u_c stepG_seq rlx hF
  u_c stepG_seq rlx hF
  u_reg rlx hF
  u_bub rlx hF
  u_c stepG_region_end rlx hF
  u_cnd false rlx hF
  u_c stepG_skip rlx hF
  u_c stepG_seq rlx hF
  u_reg rlx hF
  u_op rlx hF
  u_op rlx hF
  u_op rlx hF
  u_op rlx hF
  u_op rlx hF
  u_op rlx hF
  u_call H.f_uAdd (nm_uAdd L) uAddFn rlx hF
  u_c stepG_seq rlx hF
  u_reg rlx hF
  u_op rlx hF
  u_c stepG_region_end rlx hF
  u_c stepG_seq rlx hF
  u_reg rlx hF
  u_op rlx hF
  u_op rlx hF
  u_op rlx hF
  u_op rlx hF
  refine Goes.stop (fun w₂ h₂ => ?_)
  replace hF := rlx hF h₂
  clear h₂
  refine ⟨rfl, fun v hv hw => ?_⟩
  rcases Nat.eq_zero_or_pos v with rfl | hvp
  · replace hw : WgAt L.tWg Wg w₂ 0 0 := by simpa using hw
    have z : (((0 : Nat) : Int) + 1) * KK = KK := by simp
    rw [z]
    have e0 : IntKind.u64.wrap (0 + 4294967296) = KK := by decide
    refine ⟨_, (stepG_add_atomic rfl rfl (by k_ne) rfl H.f_addU64 (x_addU64_n L) (x_addU64_b L) (x_addU64_x L) .u64 (x_addU64_f L) rfl rfl hw.cellSt (hw.thaw 0)).trans (by rw [e0]; rfl), fun _ => ⟨60, ?_⟩, fun h => absurd rfl h⟩
    replace hF : WgLive L.tWg Wg (w₂.setCell (stA Wg) (.int .u64 KK)) := ⟨_, _, hw.setSt _⟩
    clear hw
    simp only [KK] at hF ⊢
    walk_nrm
    u_op rlx hF
    u_c stepG_region_end rlx hF
    u_c stepG_ret' rlx hF
    u_leave1 H.f_uAdd rlx hF
    u_op rlx hF
    u_c stepG_region_end rlx hF
    u_c stepG_seq rlx hF
    u_c stepG_seq rlx hF
    u_reg rlx hF
    u_op rlx hF
    u_op rlx hF
    u_op rlx hF
    u_op rlx hF
    u_skip rlx hF
    u_skip rlx hF
    u_op rlx hF
    u_c stepG_region_end rlx hF
    u_cnd false rlx hF
    u_c stepG_skip rlx hF
    u_c stepG_seq rlx hF
    u_reg rlx hF
    u_op rlx hF
    u_op rlx hF
    u_op rlx hF
    u_op rlx hF
    u_c stepG_region_end rlx hF
    u_c stepG_seq rlx hF
    u_reg rlx hF
    u_op rlx hF
    u_op rlx hF
    u_op rlx hF
    u_op rlx hF
    u_c stepG_region_end rlx hF
    u_c stepG_seq rlx hF
    u_c stepG_seq rlx hF
    u_reg rlx hF
    u_op rlx hF
    u_op rlx hF
    u_op rlx hF
    u_op rlx hF
    u_op rlx hF
    u_op rlx hF
    u_op rlx hF
    u_op rlx hF
    u_op rlx hF
    u_op rlx hF
    u_c stepG_region_end rlx hF
    u_cnd true rlx hF
    u_reg rlx hF
    u_op rlx hF
    u_op rlx hF
    u_op rlx hF
    u_conv H.underlying_tPU32 H.room_tU32 (WgLive.cell1 hF).choose_spec rlx hF
    refine Goes.stop (fun w3 h3 => ?_)
    replace hF := rlx hF h3
    clear h3
    refine ⟨rfl, _, stepG_markAt .read (by simp) rfl rfl (by k_ne) rfl H.f_raceRead (x_raceRead_n L) (x_raceRead_b L) (x_raceRead_x L) (x_raceRead_f L) (ad := ⟨Wg, 1, none⟩) (by simp [Act.eval]), 60, ?_⟩
    walk_nrm
    u_c stepG_region_end rlx hF
    u_c stepG_seq rlx hF
    u_c stepG_seq rlx hF
    u_reg rlx hF
    u_op rlx hF
    u_op rlx hF
    u_c stepG_region_end rlx hF
    u_cnd false rlx hF
    u_c stepG_skip rlx hF
    u_c stepG_seq rlx hF
    u_c stepG_seq rlx hF
    u_reg rlx hF
    u_op rlx hF
    u_op rlx hF
    u_op rlx hF
    u_skip rlx hF
    u_skip rlx hF
    u_op rlx hF
    u_op rlx hF
    u_skip rlx hF
    u_skip rlx hF
    u_skip rlx hF
    u_skip rlx hF
    u_op rlx hF
    u_c stepG_region_end rlx hF
    u_cnd false rlx hF
    u_c stepG_skip rlx hF
    u_c stepG_seq rlx hF
    u_c stepG_seq rlx hF
    u_reg rlx hF
    u_op rlx hF
    u_op rlx hF
    u_op rlx hF
    u_skip rlx hF
    u_skip rlx hF
    u_op rlx hF
    u_c stepG_region_end rlx hF
    u_cnd true rlx hF
    u_c stepG_ret' rlx hF
    refine Goes.stop (fun w4 h4 => ?_)
    replace hF := rlx hF h4
    clear h4
    refine ⟨rfl, _, stepG_unwind_entry (v := .tuple #[]) (evs := #[mk .enable]) rfl H.f_enable (x_enable_n L) (x_enable_b L) (x_enable_x L) (x_enable_f L) (by simp [Extern.Race.none_]) (by simp [mk]) (by simp [mk]), ?_⟩
    exact hA _ _ rfl (fun w => by rw [stepG_leave rfl rfl H.f_add (results_none rfl _ P w) (events_results_none rfl _ _), Frame.finish_at]) hT
  · obtain ⟨V, hV⟩ : ∃ V : Int, V = (v : Int) + 1 := ⟨_, rfl⟩
    obtain ⟨S, hS⟩ : ∃ S : Int, S = V * KK := ⟨_, rfl⟩
    have eS : IntKind.u64.wrap ((v : Int) * KK + 4294967296) = S := by rw [IntKind.wrap_u64, hS, hV]; simp only [KK]; omega
    rw [← hV, ← hS]
    have a1 : S / 4294967296 = V := by rw [hS]; simp only [KK]; omega
    have b1 : bits .and .u64 S 2147483648 = 0 := by rw [hS, hV]; have := st_flag (v + 1) 0 (by omega) (by omega); simpa [KK] using this
    have b2 : bits .and .u64 S 2147483647 = 0 := by rw [hS, hV]; have := st_waiters (v + 1) 0 (by omega) (by omega); simpa [KK] using this
    have c1 : IntKind.i32.wrap V = V := by rw [IntKind.wrap_i32]; omega
    have hV1 : 1 < V := by omega
    have hV2 : V < 2147483648 := by omega
    have q1 : (V == 1) = false := by simp; omega
    have q2 : decide (V = 1) = false := decide_eq_false (by omega)
    have q3 : decide (V < 0) = false := decide_eq_false (by omega)
    have q4 : decide (0 < V) = true := decide_eq_true (by omega)
    have q5 : (V == 0) = false := by simp; omega
    have q6 : decide (V = 0) = false := decide_eq_false (by omega)
    refine ⟨_, (stepG_add_atomic rfl rfl (by k_ne) rfl H.f_addU64 (x_addU64_n L) (x_addU64_b L) (x_addU64_x L) .u64 (x_addU64_f L) rfl rfl hw.cellSt (hw.thaw 0)).trans (by rw [eS]; rfl), fun h0 => absurd h0 (by omega), fun _ => ⟨110, ?_⟩⟩
    replace hF : WgLive L.tWg Wg (w₂.setCell (stA Wg) (.int .u64 S)) := ⟨_, _, hw.setSt _⟩
    clear hw hS hV eS
    walk_nrm
    u_op rlx hF
    u_c stepG_region_end rlx hF
    u_c stepG_ret' rlx hF
    u_leave1 H.f_uAdd rlx hF
    u_op rlx hF
    u_c stepG_region_end rlx hF
    u_c stepG_seq rlx hF
    u_c stepG_seq rlx hF
    u_reg rlx hF
    u_op rlx hF
    u_op rlx hF
    u_op rlx hF
    u_op rlx hF
    u_skip rlx hF
    u_skip rlx hF
    u_op rlx hF
    u_c stepG_region_end rlx hF
    u_cnd false rlx hF
    u_c stepG_skip rlx hF
    u_c stepG_seq rlx hF
    u_reg rlx hF
    u_op rlx hF
    u_op rlx hF
    u_op rlx hF
    u_op rlx hF
    u_c stepG_region_end rlx hF
    u_c stepG_seq rlx hF
    u_reg rlx hF
    u_op rlx hF
    u_op rlx hF
    u_op rlx hF
    u_op rlx hF
    u_c stepG_region_end rlx hF
    u_c stepG_seq rlx hF
    u_c stepG_seq rlx hF
    u_reg rlx hF
    u_op rlx hF
    u_op rlx hF
    u_op rlx hF
    u_op rlx hF
    u_op rlx hF
    u_op rlx hF
    u_op rlx hF
    u_op rlx hF
    u_op rlx hF
    u_op rlx hF
    u_c stepG_region_end rlx hF
    u_cnd false rlx hF
    u_c stepG_skip rlx hF
    u_c stepG_seq rlx hF
    u_c stepG_seq rlx hF
    u_reg rlx hF
    u_op rlx hF
    u_op rlx hF
    u_c stepG_region_end rlx hF
    u_cnd false rlx hF
    u_c stepG_skip rlx hF
    u_c stepG_seq rlx hF
    u_c stepG_seq rlx hF
    u_reg rlx hF
    u_op rlx hF
    u_op rlx hF
    u_op rlx hF
    u_skip rlx hF
    u_skip rlx hF
    u_op rlx hF
    u_op rlx hF
    u_skip rlx hF
    u_skip rlx hF
    u_skip rlx hF
    u_skip rlx hF
    u_op rlx hF
    u_c stepG_region_end rlx hF
    u_cnd false rlx hF
    u_c stepG_skip rlx hF
    u_c stepG_seq rlx hF
    u_c stepG_seq rlx hF
    u_reg rlx hF
    u_op rlx hF
    u_op rlx hF
    u_op rlx hF
    u_skip rlx hF
    u_skip rlx hF
    u_op rlx hF
    u_c stepG_region_end rlx hF
    u_cnd true rlx hF
    u_c stepG_ret' rlx hF
    refine Goes.stop (fun w4 h4 => ?_)
    replace hF := rlx hF h4
    clear h4
    refine ⟨rfl, _, stepG_unwind_entry (v := .tuple #[]) (evs := #[mk .enable]) rfl H.f_enable (x_enable_n L) (x_enable_b L) (x_enable_x L) (x_enable_f L) (by simp [Extern.Race.none_]) (by simp [mk]) (by simp [mk]), ?_⟩
    exact hA _ _ rfl (fun w => by rw [stepG_leave rfl rfl H.f_add (results_none rfl _ P w) (events_results_none rfl _ _), Frame.finish_at]) hT
/-- At the head of Wait's loop. -/
def AnchM (L : WgLink) (Wg : Nat) (c : Frame) (cs : List Frame) (g : Goroutine) (w : World) : Prop :=
  ∃ T : Array Value, g = G ((base L.wait).at ⟨T, []⟩ [.code (L7 L), .inLoop (L7 L), .inBlock 0]) (c :: cs) ∧ T.size = 84 ∧ T[0]? = some (.pointer (some ⟨Wg, 0, none⟩)) ∧ WgLive L.tWg Wg w
set_option maxRecDepth 100000 in
set_option maxHeartbeats 8000000 in
theorem waitRoundM (H : WgLib P L) (hA : Early P After) (hT : After (G (b₀.at (a₀.put ((ops₀[i₀]?).bind (·.dst)) (.tuple #[])) (.inRegion ops₀ rest₀ :: k₀)) cs)) (g : Goroutine) (w : World) (h : AnchM L Wg (b₀.at a₀ (.inRegion ops₀ (i₀ :: rest₀) :: k₀)) cs g w) :
    ∃ m, Goes P true (RL L.tWg Wg) DC0 (LW1 P L.tWg Wg After (AnchM L Wg (b₀.at a₀ (.inRegion ops₀ (i₀ :: rest₀) :: k₀)) cs)) m g w := by
  lib_facts
  obtain ⟨T, rfl, hT84, t0, hF⟩ := h
  obtain ⟨v0, v1, v2, v3, v4, v5, v6, v7, v8, v9, v10, v11, v12, v13, v14, v15, v16, v17, v18, v19, v20, v21, v22, v23, v24, v25, v26, v27, v28, v29, v30, v31, v32, v33, v34, v35, v36, v37, v38, v39, v40, v41, v42, v43, v44, v45, v46, v47, v48, v49, v50, v51, v52, v53, v54, v55, v56, v57, v58, v59, v60, v61, v62, v63, v64, v65, v66, v67, v68, v69, v70, v71, v72, v73, v74, v75, v76, v77, v78, v79, v80, v81, v82, v83, rfl⟩ := array84 T hT84
  simp only [List.getElem?_toArray, List.getElem?_cons_zero, Option.some.injEq] at t0
  subst t0
  refine ⟨30, ?_⟩
  simp only [L7, body_wait, waitFn, Option.getD_some]
  u_c stepG_block rlx hF
  u_c stepG_seq rlx hF
  u_reg rlx hF
  u_op rlx hF
  u_op rlx hF
  u_op rlx hF
  u_call H.f_uLoad (nm_uLoad L) uLoadFn rlx hF
  u_c stepG_seq rlx hF
  u_reg rlx hF
  u_op rlx hF
  u_c stepG_region_end rlx hF
  u_c stepG_seq rlx hF
  u_reg rlx hF
  u_op rlx hF
  u_op rlx hF
  u_op rlx hF
  refine Goes.stop (fun w₁ h₁ => ?_)
  replace hF := rlx hF h₁
  clear h₁
  refine ⟨rfl, fun v hv hw => ?_⟩
  rcases Nat.eq_zero_or_pos v with rfl | hvp
  · replace hw : WgAt L.tWg Wg w₁ 0 0 := by simpa using hw
    refine ⟨_, stepG_load_atomic (v := 0) rfl rfl (by k_ne) rfl H.f_loadU64 (x_loadU64_n L) (x_loadU64_b L) (x_loadU64_x L) .u64 (x_loadU64_f L) rfl hw.cellSt, fun _ => ⟨50, ?_⟩, fun h => absurd rfl h⟩
    clear hw
    walk_nrm
    u_op rlx hF
    u_c stepG_region_end rlx hF
    u_c stepG_ret' rlx hF
    u_leave1 H.f_uLoad rlx hF
    u_op rlx hF
    u_c stepG_region_end rlx hF
    u_c stepG_seq rlx hF
    u_reg rlx hF
    u_op rlx hF
    u_op rlx hF
    u_op rlx hF
    u_op rlx hF
    u_c stepG_region_end rlx hF
    u_c stepG_seq rlx hF
    u_reg rlx hF
    u_op rlx hF
    u_op rlx hF
    u_op rlx hF
    u_op rlx hF
    u_c stepG_region_end rlx hF
    u_c stepG_seq rlx hF
    u_c stepG_seq rlx hF
    u_reg rlx hF
    u_op rlx hF
    u_op rlx hF
    u_c stepG_region_end rlx hF
    u_cnd true rlx hF
    u_c stepG_seq rlx hF
    u_cnd true rlx hF
    u_c stepG_seq rlx hF
    u_reg rlx hF
    refine Goes.stop (fun w5 h5 => ?_)
    replace hF := rlx hF h5
    clear h5
    refine ⟨rfl, _, stepG_mark0 .enable (by simp) rfl rfl (by k_ne) rfl H.f_enable (x_enable_n L) (x_enable_b L) (x_enable_x L) (x_enable_f L), 12, ?_⟩
    walk_nrm
    u_c stepG_region_end rlx hF
    u_reg rlx hF
    u_op rlx hF
    u_conv H.underlying_tWgP H.room_tWg (WgLive.cell0 hF).choose_spec rlx hF
    refine Goes.stop (fun w6 h6 => ?_)
    replace hF := rlx hF h6
    clear h6
    refine ⟨rfl, _, stepG_markAt .acquire (by simp) rfl rfl (by k_ne) rfl H.f_acquire (x_acquire_n L) (x_acquire_b L) (x_acquire_x L) (x_acquire_f L) (by simp [Act.eval, stA]), ?_⟩
    clear hF
    walk_nrm
    refine hA _ _ rfl (fun _ => stepG_region_end) ?_
    refine hA _ _ rfl (fun _ => stepG_seq) ?_
    refine hA _ _ rfl (fun _ => stepG_seq) ?_
    refine hA _ _ rfl (fun _ => stepG_region) ?_
    simp only [List.size_toArray, List.length_cons, List.length_nil, Nat.reduceAdd, Nat.zero_add, List.range, List.range.loop]
    refine aft_value hA (.int .u32 0) rfl rfl (by k_ne) (fun _ => by go_simp; try (first | w_num | decide)) (fun _ => by simp [go_sem, *]) ?_
    walk_nrm
    refine aft_value hA (.bool true) rfl rfl (by k_ne) (fun _ => by go_simp; try (first | w_num | decide)) (fun _ => by simp [go_sem, *]) ?_
    walk_nrm
    refine aft_value hA (.bool true) rfl rfl (by k_ne) (fun _ => by go_simp; try (first | w_num | decide)) (fun _ => by simp [go_sem, *]) ?_
    walk_nrm
    refine aft_value hA (.int .u64 0) rfl rfl (by k_ne) (fun _ => by go_simp; try (first | w_num | decide)) (fun _ => by simp [go_sem, *]) ?_
    walk_nrm
    refine aft_value hA (.int .u64 0) rfl rfl (by k_ne) (fun _ => by go_simp; try (first | w_num | decide)) (fun _ => by simp [go_sem, *]) ?_
    walk_nrm
    refine aft_value hA (.bool false) rfl rfl (by k_ne) (fun _ => by go_simp; try (first | w_num | decide)) (fun _ => by simp [go_sem, *]) ?_
    walk_nrm
    refine aft_value hA (.bool false) rfl rfl (by k_ne) (fun _ => by go_simp; try (first | w_num | decide)) (fun _ => by simp [go_sem, *]) ?_
    walk_nrm
    refine aft_value hA (.bool false) rfl rfl (by k_ne) (fun _ => by go_simp; try (first | w_num | decide)) (fun _ => by simp [go_sem, *]) ?_
    walk_nrm
    refine hA _ _ rfl (fun _ => stepG_unwanted rfl rfl) ?_
    walk_nrm
    refine hA _ _ rfl (fun _ => stepG_unwanted rfl rfl) ?_
    walk_nrm
    refine aft_value hA (.bool false) rfl rfl (by k_ne) (fun _ => by go_simp; try (first | w_num | decide)) (fun _ => by simp [go_sem, *]) ?_
    walk_nrm
    refine hA _ _ rfl (fun _ => stepG_region_end) ?_
    refine hA _ _ rfl (fun _ => stepG_cond (t := false) rfl) ?_
    simp only [if_true, if_false, Bool.false_eq_true, ↓reduceIte]
    refine hA _ _ rfl (fun _ => stepG_skip) ?_
    refine hA _ _ rfl (fun _ => stepG_ret') ?_
    exact hA _ _ rfl (fun w => by rw [stepG_leave rfl rfl H.f_wait (results_none rfl _ P w) (events_results_none rfl _ _), Frame.finish_at]) hT
  · obtain ⟨S, hS⟩ : ∃ S : Int, (v : Int) * KK = S := ⟨_, rfl⟩
    have a1 : S / 4294967296 = (v : Int) := by rw [← hS]; simp only [KK]; omega
    have b1 : bits .and .u64 S 2147483648 = 0 := by rw [← hS]; have := st_flag v 0 (by omega) (by omega); simpa [KK] using this
    have b2 : bits .and .u64 S 2147483647 = 0 := by rw [← hS]; have := st_waiters v 0 (by omega) (by omega); simpa [KK] using this
    have c1 : IntKind.i32.wrap (v : Int) = (v : Int) := by rw [IntKind.wrap_i32]; omega
    have w1 : IntKind.u64.wrap (S + 1) = S + 1 := by rw [IntKind.wrap_u64, ← hS]; simp only [KK]; omega
    have q3 : decide ((v : Int) < 0) = false := decide_eq_false (by omega)
    have q4 : decide (0 < (v : Int)) = true := decide_eq_true (by omega)
    have q5 : ((v : Int) == 0) = false := by simp; omega
    have q6 : decide ((v : Int) = 0) = false := decide_eq_false (by omega)
    rw [hS] at hw
    refine ⟨_, stepG_load_atomic (v := S) rfl rfl (by k_ne) rfl H.f_loadU64 (x_loadU64_n L) (x_loadU64_b L) (x_loadU64_x L) .u64 (x_loadU64_f L) rfl hw.cellSt, fun h0 => absurd h0 (by omega), fun _ => ⟨60, ?_⟩⟩
    clear hw
    walk_nrm
    u_op rlx hF
    u_c stepG_region_end rlx hF
    u_c stepG_ret' rlx hF
    u_leave1 H.f_uLoad rlx hF
    u_op rlx hF
    u_c stepG_region_end rlx hF
    u_c stepG_seq rlx hF
    u_reg rlx hF
    u_op rlx hF
    u_op rlx hF
    u_op rlx hF
    u_op rlx hF
    u_c stepG_region_end rlx hF
    u_c stepG_seq rlx hF
    u_reg rlx hF
    u_op rlx hF
    u_op rlx hF
    u_op rlx hF
    u_op rlx hF
    u_c stepG_region_end rlx hF
    u_c stepG_seq rlx hF
    u_c stepG_seq rlx hF
    u_reg rlx hF
    u_op rlx hF
    u_op rlx hF
    u_c stepG_region_end rlx hF
    u_cnd false rlx hF
    u_c stepG_skip rlx hF
    u_c stepG_seq rlx hF
    u_reg rlx hF
    u_op rlx hF
    u_op rlx hF
    u_op rlx hF
    u_op rlx hF
    u_op rlx hF
    u_op rlx hF
    u_call H.f_uCas (nm_uCas L) uCasFn rlx hF
    u_c stepG_seq rlx hF
    u_reg rlx hF
    u_op rlx hF
    u_c stepG_region_end rlx hF
    u_c stepG_seq rlx hF
    u_reg rlx hF
    u_op rlx hF
    u_op rlx hF
    u_op rlx hF
    u_op rlx hF
    u_op rlx hF
    refine Goes.stop (fun w₂ h₂ => ?_)
    replace hF := rlx hF h₂
    clear h₂
    refine ⟨rfl, fun v' hv' hw => ⟨fun e => ?_, fun e => ?_⟩⟩
    · subst e
      rw [hS] at hw ⊢
      refine ⟨_, (stepG_cas_hit (v := S) (n := S + 1) rfl rfl (by k_ne) rfl H.f_casU64 (x_casU64_n L) (x_casU64_b L) (x_casU64_x L) .u64 (x_casU64_f L) rfl rfl rfl hw.cellSt (hw.thaw 0)).trans (by rfl), 70, 70, ?_⟩
      replace hF : WgLive L.tWg Wg (w₂.setCell (stA Wg) (.int .u64 (S + 1))) := ⟨_, _, hw.setSt _⟩
      clear hw
      walk_nrm
      u_op rlx hF
      u_c stepG_region_end rlx hF
      u_c stepG_ret' rlx hF
      u_leave1 H.f_uCas rlx hF
      u_c stepG_region_end rlx hF
      u_cnd true rlx hF
      u_c stepG_seq rlx hF
      u_c stepG_seq rlx hF
      u_reg rlx hF
      u_op rlx hF
      u_op rlx hF
      u_op rlx hF
      u_op rlx hF
      u_c stepG_region_end rlx hF
      u_cnd true rlx hF
      u_reg rlx hF
      u_op rlx hF
      u_op rlx hF
      u_op rlx hF
      u_conv H.underlying_tPU32 H.room_tU32 (WgLive.cell1 hF).choose_spec rlx hF
      refine Goes.stop (fun w7 h7 => ?_)
      replace hF := rlx hF h7
      clear h7
      refine ⟨rfl, _, stepG_markAt .write (by simp) rfl rfl (by k_ne) rfl H.f_raceWrite (x_raceWrite_n L) (x_raceWrite_b L) (x_raceWrite_x L) (x_raceWrite_f L) (ad := ⟨_, 1, none⟩) (by simp [Act.eval] <;> rfl), ?_⟩
      walk_nrm
      u_c stepG_region_end rlx hF
      u_c stepG_seq rlx hF
      u_reg rlx hF
      u_op rlx hF
      u_c stepG_region_end rlx hF
      u_c stepG_seq rlx hF
      u_c stepG_seq rlx hF
      u_reg rlx hF
      u_op rlx hF
      u_op rlx hF
      u_op rlx hF
      u_op rlx hF
      u_skip rlx hF
      u_op rlx hF
      u_c stepG_region_end rlx hF
      u_cnd false rlx hF
      u_c stepG_skip rlx hF
      u_c stepG_seq rlx hF
      u_reg rlx hF
      u_op rlx hF
      u_op rlx hF
      u_op rlx hF
      u_op rlx hF
      refine Goes.stop (fun w₃ h₃ => ?_)
      replace hF := rlx hF h₃
      clear h₃
      refine ⟨rfl, rfl, fun ⟨st, hw⟩ => stepG_semacquire_wait rfl rfl rfl H.f_semacquire (x_semacquire_n L) (x_semacquire_b L) (x_semacquire_x L) (x_semacquire_f L) (by simp [Act.eval, smA]) hw.cellSm, fun hf => ?_⟩
      refine ⟨_, (stepG_semacquire (n := 1) rfl rfl (by k_ne) rfl H.f_semacquire (x_semacquire_n L) (x_semacquire_b L) (x_semacquire_x L) (x_semacquire_f L) (by simp [Act.eval, smA]) hf.cellSm (by k_ne) (hf.thaw 1)).trans (by rfl), 30, ?_⟩
      replace hF : WgLive L.tWg Wg (w₃.setCell (smA Wg) (.int .u32 0)) := ⟨_, _, hf.setSm 0⟩
      clear hf
      walk_nrm
      u_c stepG_region_end rlx hF
      u_c stepG_seq rlx hF
      u_reg rlx hF
      u_op rlx hF
      u_op rlx hF
      u_op rlx hF
      u_call H.f_uLoad (nm_uLoad L) uLoadFn rlx hF
      u_c stepG_seq rlx hF
      u_reg rlx hF
      u_op rlx hF
      u_c stepG_region_end rlx hF
      u_c stepG_seq rlx hF
      u_reg rlx hF
      u_op rlx hF
      u_op rlx hF
      u_op rlx hF
      refine Goes.stop (fun w₄ h₄ => ?_)
      replace hF := rlx hF h₄
      clear h₄
      refine ⟨rfl, fun hw => ⟨_, stepG_load_atomic (v := 0) rfl rfl (by k_ne) rfl H.f_loadU64 (x_loadU64_n L) (x_loadU64_b L) (x_loadU64_x L) .u64 (x_loadU64_f L) rfl hw.cellSt, 30, ?_⟩⟩
      clear hw
      walk_nrm
      u_op rlx hF
      u_c stepG_region_end rlx hF
      u_c stepG_ret' rlx hF
      u_leave1 H.f_uLoad rlx hF
      u_op rlx hF
      u_op rlx hF
      u_c stepG_region_end rlx hF
      u_c stepG_seq rlx hF
      u_cnd true rlx hF
      u_c stepG_seq rlx hF
      u_reg rlx hF
      refine Goes.stop (fun w5 h5 => ?_)
      replace hF := rlx hF h5
      clear h5
      refine ⟨rfl, _, stepG_mark0 .enable (by simp) rfl rfl (by k_ne) rfl H.f_enable (x_enable_n L) (x_enable_b L) (x_enable_x L) (x_enable_f L), 12, ?_⟩
      walk_nrm
      u_c stepG_region_end rlx hF
      u_reg rlx hF
      u_op rlx hF
      u_conv H.underlying_tWgP H.room_tWg (WgLive.cell0 hF).choose_spec rlx hF
      refine Goes.stop (fun w6 h6 => ?_)
      replace hF := rlx hF h6
      clear h6
      refine ⟨rfl, _, stepG_markAt .acquire (by simp) rfl rfl (by k_ne) rfl H.f_acquire (x_acquire_n L) (x_acquire_b L) (x_acquire_x L) (x_acquire_f L) (by simp [Act.eval, stA]), ?_⟩
      clear hF
      walk_nrm
      refine hA _ _ rfl (fun _ => stepG_region_end) ?_
      refine hA _ _ rfl (fun _ => stepG_seq) ?_
      refine hA _ _ rfl (fun _ => stepG_seq) ?_
      refine hA _ _ rfl (fun _ => stepG_region) ?_
      simp only [List.size_toArray, List.length_cons, List.length_nil, Nat.reduceAdd, Nat.zero_add, List.range, List.range.loop]
      refine aft_value hA (.bool false) rfl rfl (by k_ne) (fun _ => by go_simp; try (first | w_num | decide)) (fun _ => by simp [go_sem, *]) ?_
      walk_nrm
      refine hA _ _ rfl (fun _ => stepG_region_end) ?_
      refine hA _ _ rfl (fun _ => stepG_cond (t := false) rfl) ?_
      simp only [if_true, if_false, Bool.false_eq_true, ↓reduceIte]
      refine hA _ _ rfl (fun _ => stepG_skip) ?_
      refine hA _ _ rfl (fun _ => stepG_ret') ?_
      exact hA _ _ rfl (fun w => by rw [stepG_leave rfl rfl H.f_wait (results_none rfl _ P w) (events_results_none rfl _ _), Frame.finish_at]) hT
    · refine ⟨_, stepG_cas_miss (v := (v' : Int) * KK) (old := S) (n := S + 1) rfl rfl (by k_ne) rfl H.f_casU64 (x_casU64_n L) (x_casU64_b L) (x_casU64_x L) .u64 (x_casU64_f L) rfl rfl rfl hw.cellSt (hw.thaw 0) (by rw [← hS]; simp only [KK]; omega), 20, ?_⟩
      clear hw
      walk_nrm
      u_op rlx hF
      u_c stepG_region_end rlx hF
      u_c stepG_ret' rlx hF
      u_leave1 H.f_uCas rlx hF
      u_c stepG_region_end rlx hF
      u_cnd false rlx hF
      u_c stepG_skip rlx hF
      u_c stepG_inBlock rlx hF
      u_c stepG_inLoop rlx hF
      refine Goes.stop (fun w₃ h₃ => ?_)
      replace hF := rlx hF h₃
      exact ⟨_, rfl, by simp, by simp, hF⟩
set_option maxRecDepth 100000 in
theorem waitStartM (H : WgLib P L) (w : World) (hF : WgLive L.tWg Wg w) :
    Goes P true (RL L.tWg Wg) DC0 (LKdW P L.tWg Wg (AnchM L Wg (b₀.at a₀ (.inRegion ops₀ (i₀ :: rest₀) :: k₀)) cs)) 3 (G ((base L.wait).at ⟨#[.pointer (some ⟨Wg, 0, none⟩), undef, undef, undef, undef, undef, undef, undef, undef, undef, undef, undef, undef, undef, undef, undef, undef, undef, undef, undef, undef, undef, undef, undef, undef, undef, undef, undef, undef, undef, undef, undef, undef, undef, undef, undef, undef, undef, undef, undef, undef, undef, undef, undef, undef, undef, undef, undef, undef, undef, undef, undef, undef, undef, undef, undef, undef, undef, undef, undef, undef, undef, undef, undef, undef, undef, undef, undef, undef, undef, undef, undef, undef, undef, undef, undef, undef, undef, undef, undef, undef, undef, undef, undef], []⟩ [.code (body_wait L)]) (b₀.at a₀ (.inRegion ops₀ (i₀ :: rest₀) :: k₀) :: cs)) w := by
  lib_facts
  simp only [body_wait, waitFn, Option.getD_some]
  u_c stepG_seq rlx hF
  u_cnd true rlx hF
  u_reg rlx hF
  refine Goes.stop (fun w1 h1 => ?_)
  replace hF := rlx hF h1
  clear h1
  refine ⟨rfl, _, stepG_mark0 .disable (by simp) rfl rfl (by k_ne) rfl H.f_disable (x_disable_n L) (x_disable_b L) (x_disable_x L) (x_disable_f L), 3, ?_⟩
  walk_nrm
  u_c stepG_region_end rlx hF
  u_c stepG_block rlx hF
  u_c stepG_loop rlx hF
  exact Goes.stop (fun w₂ h₂ => ⟨_, rfl, by simp, by simp, rlx hF h₂⟩)
/-- Wait, in whatever company. -/
theorem waitM (H : WgLib P L) (hA : Early P After) (hT : After (G (b₀.at (a₀.put ((ops₀[i₀]?).bind (·.dst)) (.tuple #[])) (.inRegion ops₀ rest₀ :: k₀)) cs)) :
    LWait P L.tWg Wg After (G ((base L.wait).at ⟨#[.pointer (some ⟨Wg, 0, none⟩), undef, undef, undef, undef, undef, undef, undef, undef, undef, undef, undef, undef, undef, undef, undef, undef, undef, undef, undef, undef, undef, undef, undef, undef, undef, undef, undef, undef, undef, undef, undef, undef, undef, undef, undef, undef, undef, undef, undef, undef, undef, undef, undef, undef, undef, undef, undef, undef, undef, undef, undef, undef, undef, undef, undef, undef, undef, undef, undef, undef, undef, undef, undef, undef, undef, undef, undef, undef, undef, undef, undef, undef, undef, undef, undef, undef, undef, undef, undef, undef, undef, undef, undef], []⟩ [.code (body_wait L)]) (b₀.at a₀ (.inRegion ops₀ (i₀ :: rest₀) :: k₀) :: cs)) :=
  ⟨AnchM L Wg (b₀.at a₀ (.inRegion ops₀ (i₀ :: rest₀) :: k₀)) cs, fun g w h => by obtain ⟨_, rfl, _⟩ := h; rfl, fun g w h => waitRoundM H hA hT g w h, fun w hF => ⟨3, waitStartM H w hF⟩⟩
end Go.Proofs.Ytgeflnjjppgooaa.Y

namespace Go.Proofs.Ytgeflnjjppgooaa.Q
open Go Go.Conc Go.RowKit Go.Proofs.Ytgeflnjjppgooaa.Y Go.Conc.Lib Go.ConcR.Gen Go.ConcN.Gen
attribute [-instance] phC
attribute [local instance] noPh
set_option maxRecDepth 20000
set_option linter.unusedSimpArgs false
set_option linter.unusedVariables false
theorem frz_cell (v : World) (a : Addr) : (frz v).cell? a = v.cell? a := by
  simp only [World.cell?, frz_get]
  cases v.heap[a.block]? with
  | none => rfl
  | some o => cases o <;> rfl
theorem kill_cell {S : Nat → Bool} {v : World} {a : Addr} (h : S a.block = false) : (kill S v).cell? a = v.cell? a := by
  simp only [World.cell?, kill_get]
  cases v.heap[a.block]? with
  | none => rfl
  | some o => simp [h]
theorem Cl.of_cells {w w' : World} {a : Option Addr} {us : List Value} (h : Cl w a us) (hc : ∀ p, a = some p → ∀ k, w'.cell? ⟨p.block, k, none⟩ = w.cell? ⟨p.block, k, none⟩) : Cl w' a us := by
  rcases h with h | ⟨p, h1, h2, h3⟩
  · exact .inl h
  · refine .inr ⟨p, h1, h2, fun i u hu => ?_⟩
    obtain ⟨v, hv, hu⟩ := h3 i u hu
    exact ⟨v, (hc p h1 _).trans hv, hu⟩
theorem Cl.frz {v : World} {a : Option Addr} {us : List Value} (h : Cl v a us) : Cl (Y.frz v) a us := Cl.of_cells h fun p _ k => frz_cell v _
theorem WC.Kn.frz {C : WC} {v : World} (h : C.Kn v) : C.Kn (Y.frz v) := ⟨Cl.frz h.h1, Cl.frz h.h2, Cl.frz h.h3, Cl.frz h.h4, Cl.frz h.hA, fun i hi => Cl.frz (h.hR i hi), Cl.frz h.hW, Cl.frz h.hG⟩
noncomputable def J17 : Code := match Try.f17.body with | some (.seq _ (.seq _ (.seq _ (.seq _ x)))) => x | _ => .skip
noncomputable def LB17 : Code := match J17 with | .seq (.seq _ (.block _ (.loop L))) _ => L | _ => .skip
noncomputable def R5 : Code := match J17 with | .seq (.seq x _) _ => x | _ => .skip
noncomputable def R10 : Code := match J17 with | .seq _ (.seq x _) => x | _ => .skip
noncomputable def Rest17 : Code := match J17 with | .seq _ (.seq _ x) => x | _ => .skip
noncomputable def R6 : Code := match LB17 with | .seq x _ => x | _ => .skip
noncomputable def R7 : Code := match LB17 with | .seq _ (.seq _ (.seq (.block _ (.seq x _)) _)) => x | _ => .skip
noncomputable def R8 : Code := match LB17 with | .seq _ (.seq _ (.seq (.block _ (.seq _ x)) _)) => x | _ => .skip
noncomputable def R9 : Code := match LB17 with | .seq _ (.seq _ (.seq _ x)) => x | _ => .skip
noncomputable def C17 : Operand := match LB17 with | .seq _ (.seq (.cond c _ _) _) => c | _ => .tmp 0
theorem C17_is : C17 = .tmp 45 := rfl
def WC.senv (C : WC) (Wg x1 i : Nat) : Env := [(44, .int .i64 (i : Int)), (43, .int .i64 (C.n : Int)), (11, .pointer (some (adr (some ⟨Wg, 0, none⟩) 0))), (3, .pointer (some (adr (some ⟨C.q1, 0, none⟩) 0))), (5, .pointer (some (adr (some ⟨C.q2, 0, none⟩) 0))), (9, .pointer (some (adr (some ⟨C.q3, 0, none⟩) 0))), (10, .pointer (some (adr (some ⟨C.q4, 0, none⟩) 0))), (1, .float .f32 x1)]
section
variable {C : WC} {Wg x1 i : Nat} {v : World}
theorem head17 : V Try.prog 104 v [] (C.senv Wg x1 i) R6 (fun e a' w' => e = .normal ∧ Models 104 ((45, .bool (decide ((i : Int) < (C.n : Int)))) :: C.senv Wg x1 i) a' ∧ Below v.heap.size v w') := by
  refine V.region ?_
  refine VL.r (.inl rfl) rfl (by decide) (yr_icmp rfl (.inr (.inr (.inl rfl))) rfl rfl) ?_
  exact VL.nil fun a' w' ha hw => ⟨rfl, ha, hw.below⟩
theorem var17 : V Try.prog 104 v [] (C.senv Wg x1 i) R7 (fun e a' w' => e = .normal ∧ ∃ q0, Models 104 ((12, .pointer (some (adr (some ⟨q0, 0, none⟩) 0))) :: C.senv Wg x1 i) a' ∧ Hp v [⟨some ⟨q0, 0, none⟩, [.int .i64 (i : Int)], 1, 3⟩] w') := by
  refine V.region ?_
  refine VL.r (.inl rfl) rfl (by decide) (yr_move rfl rfl) ?_
  refine VL.new1 (.inl rfl) rfl (by decide) (yn_alloc (z := .int .i64 0) (cs := [.int .i64 0]) rfl (by kernel_rfl) rfl) ?_
  intro q0
  refine VL.s (.inl rfl) rfl (yc_store (t := 3) (z := 1) rfl (by kernel_rfl) rfl rfl UpdF.here (.inl ⟨rfl, rfl⟩) rfl (by decide) (by decide) rfl) ?_
  intro _
  exact VL.nil fun a' w' ha hw => ⟨rfl, q0, ha.mono (Cov.get (.cons rfl (.cons rfl (.cons rfl (.cons rfl (.cons rfl (.cons rfl (.cons rfl (.cons rfl (.cons rfl .nil)))))))))), hw⟩
theorem next17 (hi : i < 1000) : V Try.prog 104 v [] (C.senv Wg x1 i) R9 (fun e a' w' => e = .normal ∧ Models 104 (C.senv Wg x1 (i + 1)) a' ∧ Below v.heap.size v w') := by
  refine V.region ?_
  refine VL.r (.inl rfl) rfl (by decide) (yr_int rfl rfl rfl (.inl ⟨rfl, wrap_in (by omega)⟩)) ?_
  refine VL.r (.inl rfl) rfl (by decide) (yr_move rfl rfl) ?_
  exact VL.nil fun a' w' ha hw => ⟨rfl, ha.mono (Cov.get (.cons rfl (.cons rfl (.cons rfl (.cons rfl (.cons rfl (.cons rfl (.cons rfl (.cons rfl .nil))))))))), hw.below⟩
end
/-- A function value as an operation's operand, exactly. -/
theorem Models.exact {n : Nat} {E : Env} {a : Act} (h : Models n E a) {t : Nat} {p : Option Addr} (ht : E.get t = some (.pointer p)) : a.eval (.tmp t) = .pointer p := by
  obtain ⟨v', g1, g2⟩ := h.get t _ ht
  simp [Act.eval, g1, cn_pointer g2]
theorem cell_ptr {w : World} {b : Nat} {p : Option Addr} (h : Cl w (some ⟨b, 0, none⟩) [.pointer p]) : w.cell? ⟨b, 0, none⟩ = some (.pointer p) := by
  obtain ⟨v, h1, h2⟩ := h.cell (k := 0) rfl
  rw [cn_pointer h2] at h1; exact h1
theorem cell_fn {w : World} {b : Nat} {f : Fn} {x y : Array Value} (h : Cl w (some ⟨b, 0, none⟩) [.func f x y]) : w.cell? ⟨b, 0, none⟩ = some (.func f x y) := by
  obtain ⟨v, h1, h2⟩ := h.cell (k := 0) rfl
  rw [cn_func h2] at h1; exact h1
theorem early3 {P : Program} {S : Goroutine → World → Prop} {v : World} : Early P (fun g => Go3 P true S g v) := fun g g' hs h hn => .ctl hs h hn
section
variable {C : WC} {D : Sc} {Wg x1 : Nat} {K : Goroutine → World → Prop} {b : Frame} {k : List Item} {cs : List Frame}
abbrev SP (D : Sc) (K : Goroutine → World → Prop) (r : Nat) : Goroutine → World → Prop := fun g v => Go3 Try.prog true (SpStop Try.prog D K r) g v
/-- A round: one worker more. -/
theorem spawn17 (H : C.Ok) (hk : b.kind ≠ .early) (hD : D.ty = lnk.tWg) (hW : D.Wg = Wg) (hn : D.n = C.n) (hown : ∀ i j, j < C.nb → j % C.n = i → D.own i ⟨C.bA, j, none⟩ ∧ D.own i ⟨C.bB, j, none⟩) (hfin : ∀ i σ v k, C.nb ≤ k → C.Got i k σ v → D.fin i σ v)
    {r : Nat} (hr : r + 1 ≤ C.n) {a : Act} {v : World} (ha : Models 104 (C.senv Wg x1 (C.n - (r + 1))) a) (hK : C.Kn v)
    (hnext : ∀ a v, Models 104 (C.senv Wg x1 (C.n - r)) a → C.Kn v → SP D K r (G (b.at a (.inLoop LB17 :: .inBlock 0 :: k)) cs) v) :
    SP D K (r + 1) (G (b.at a (.code (.seq (.block 1 (.seq R7 R8)) R9) :: .inLoop LB17 :: .inBlock 0 :: k)) cs) v := by
  refine .ctl rfl (fun _ => stepG_seq) ?_
  refine .ctl rfl (fun _ => stepG_block) ?_
  refine .ctl rfl (fun _ => stepG_seq) ?_
  refine (var17 a v ha (Hp.refl v)) true _ _ _ _ hk ?_
  rintro e a1 v1 ⟨rfl, q0, m1, hp1⟩
  refine .ctl rfl (fun _ => stepG_region) ?_
  have t12 := Models.exact m1 (t := 12) rfl
  have t11 := Models.exact m1 (t := 11) rfl
  have t3 := Models.exact m1 (t := 3) rfl
  have t5 := Models.exact m1 (t := 5) rfl
  have t9 := Models.exact m1 (t := 9) rfl
  have t10 := Models.exact m1 (t := 10) rfl
  refine go_pure (C.fnv q0) rfl rfl hk (frop_of (by kernel_rfl) _ fun _ => rfl) (fun v2 hx => ?_) ?_
  · simp [execOp, Instr.makeFunc, t12, t3, t5, t9, t10, adr]
  have m2 : Models 104 ((47, C.fnv q0) :: (12, .pointer (some (adr (some ⟨q0, 0, none⟩) 0))) :: C.senv Wg x1 (C.n - (r + 1))) (a1.put (some 47) (C.fnv q0)) := m1.put (by decide) rfl
  show Go3 _ _ _ (G (b.at (a1.put (some 47) (C.fnv q0)) _) _) _
  generalize a1.put (some 47) (C.fnv q0) = a2 at m2 ⊢
  have u11 := Models.exact m2 (t := 11) rfl
  have u47 : a2.eval (.tmp 47) = C.fnv q0 := by
    obtain ⟨v', g1, g2⟩ := m2.get 47 _ rfl
    simp [Act.eval, g1, cn_func g2]
  refine go_in #[.pointer (some ⟨Wg, 0, none⟩), C.fnv q0] Try.func45 rfl rfl rfl hk (frop_of (by kernel_rfl) _ fun _ => rfl) (fun v2 hx => ?_) ?_
  · simp [Act.eval, adr] at u11 u47
    simp [execOp, resolve, u11, u47, adr, Deferred.ofValue, invoke, callFunc, Act.eval, Try.func45, Try.f45]
  refine .ctl rfl (fun _ => stepG_seq) ?_
  have hm : Models 7 (argsFrom 0 [.pointer (some ⟨Wg, 0, none⟩), C.fnv q0]) { tmps := #[.pointer (some ⟨Wg, 0, none⟩), C.fnv q0] ++ Array.replicate (7 - #[Value.pointer (some ⟨Wg, 0, none⟩), C.fnv q0].size) undef, defers := [] } := models_args rfl (Nat.le_of_ble_eq_true rfl)
  have hV : V Try.prog 7 v [⟨some ⟨q0, 0, none⟩, [.int .i64 ((C.n - (r + 1) : Nat) : Int)], 1, 3⟩] (argsFrom 0 [.pointer (some ⟨Wg, 0, none⟩), C.fnv q0])
      (match Try.f45.body with | some (.seq x _) => x | _ => .skip) (fun e a' w' => e = .normal ∧ ∃ b2 b3, Models 7 [(2, .pointer (some (adr (some ⟨b2, 0, none⟩) 0))), (3, .pointer (some (adr (some ⟨b3, 0, none⟩) 0)))] a' ∧
        Hp v [⟨some ⟨b3, 0, none⟩, [C.fnv q0], 1, 1⟩, ⟨some ⟨b2, 0, none⟩, [.pointer (some ⟨Wg, 0, none⟩)], 1, 98⟩, ⟨some ⟨q0, 0, none⟩, [.int .i64 ((C.n - (r + 1) : Nat) : Int)], 1, 3⟩] w') := by
    refine V.region ?_
    refine VL.new1 (.inl rfl) rfl (by decide) (yn_box rfl rfl (.inl ⟨rfl, rfl⟩)) ?_
    intro b2
    refine VL.new1 (.inl rfl) rfl (by decide) (yn_box rfl rfl (.inl ⟨rfl, rfl⟩)) ?_
    intro b3
    exact VL.nil fun a' w' ha hw => ⟨rfl, b2, b3, ha.mono (Cov.get (.cons rfl (.cons rfl .nil))), hw⟩
  refine (hV _ v1 hm hp1) true _ _ _ _ (by decide) ?_
  rintro e a3 v3 ⟨rfl, b2, b3, m3, hp3⟩
  refine .ctl rfl (fun _ => stepG_seq) ?_
  refine .ctl rfl (fun _ => stepG_region) ?_
  have w2 := Models.exact m3 (t := 2) rfl
  have c2 := cell_ptr ((hp3.ents _ (List.mem_cons_of_mem _ List.mem_cons_self)).cl)
  refine go_pure (.pointer (some ⟨Wg, 0, none⟩)) rfl rfl (by decide) (frop_of (by kernel_rfl) _ fun _ => rfl) (fun v4 hx => ?_) ?_
  · have h9 := (hx.cell (World.block_lt_of_cell c2)).trans c2
    simp [execOp, w2, adr, Instr.loadAt, Instr.sureAddr, loadVar, Try.isAgg98, h9]
  have m4 : Models 7 ((4, .pointer (some ⟨Wg, 0, none⟩)) :: [(2, .pointer (some (adr (some ⟨b2, 0, none⟩) 0))), (3, .pointer (some (adr (some ⟨b3, 0, none⟩) 0)))]) (a3.put (some 4) (.pointer (some ⟨Wg, 0, none⟩))) := m3.put (by decide) rfl
  show Go3 _ _ _ (G ((base 45).at (a3.put (some 4) (.pointer (some ⟨Wg, 0, none⟩))) _) _) _
  generalize a3.put (some 4) (.pointer (some ⟨Wg, 0, none⟩)) = a4 at m4 ⊢
  have u4 := Models.exact m4 (t := 4) rfl
  refine go_in (c := body_add lnk) #[.pointer (some ⟨Wg, 0, none⟩), .int .i64 1] lib.f_add rfl rfl rfl (by decide) (frop_of (by kernel_rfl) _ fun _ => rfl) (fun v4 hx => ?_) ?_
  · simp [Act.eval] at u4
    simp [execOp, resolve, u4, Deferred.ofValue, invoke, callFunc, Act.eval, lib.f_add, addFn]
  rw [show (addFn lnk).ntmps = 117 from rfl]
  walk_nrm
  refine .stop fun v5 hx5 => ⟨rfl, ?_⟩
  rw [hD, hW]
  refine addM lib early3 ?_
  have hp5 := hp3.ext hx5
  refine .ctl rfl (fun _ => stepG_region_end) ?_
  refine .ctl rfl (fun _ => stepG_region) ?_
  have m5 : Models 7 ((5, .tuple #[]) :: (4, .pointer (some ⟨Wg, 0, none⟩)) :: [(2, .pointer (some (adr (some ⟨b2, 0, none⟩) 0))), (3, .pointer (some (adr (some ⟨b3, 0, none⟩) 0)))]) (a4.put (some 5) (.tuple #[])) := m4.put (by decide) (by simp [cn])
  show Go3 _ _ _ (G ((base 45).at (a4.put (some 5) (.tuple #[])) _) _) _
  generalize a4.put (some 5) (.tuple #[]) = a5 at m5 ⊢
  have y2 := Models.exact m5 (t := 2) rfl
  have y3 := Models.exact m5 (t := 3) rfl
  refine go_pure (fnV 73 #[.pointer (some ⟨b2, 0, none⟩), .pointer (some ⟨b3, 0, none⟩)]) rfl rfl (by decide) (frop_of (by kernel_rfl) _ fun _ => rfl) (fun v6 hx => ?_) ?_
  · simp [execOp, Instr.makeFunc, y2, y3, adr]
  have hd5 := m5.defers
  have m6 : (a5.put (some 6) (fnV 73 #[.pointer (some ⟨b2, 0, none⟩), .pointer (some ⟨b3, 0, none⟩)])).eval (.tmp 6) = fnV 73 #[.pointer (some ⟨b2, 0, none⟩), .pointer (some ⟨b3, 0, none⟩)] := by
    have : 6 < a5.tmps.size := by rw [m5.size]; decide
    simp [Act.eval, Act.put, this]
  have hd6 : (a5.put (some 6) (fnV 73 #[.pointer (some ⟨b2, 0, none⟩), .pointer (some ⟨b3, 0, none⟩)])).defers = [] := hd5
  show Go3 _ _ _ (G ((base 45).at (a5.put (some 6) (fnV 73 #[.pointer (some ⟨b2, 0, none⟩), .pointer (some ⟨b3, 0, none⟩)])) _) _) _
  generalize a5.put (some 6) (fnV 73 #[.pointer (some ⟨b2, 0, none⟩), .pointer (some ⟨b3, 0, none⟩)]) = a6 at m6 hd6 ⊢
  refine .stop fun v6 hx6 => ?_
  have hp6 := hp5.ext hx6
  have hK6 := (hK.below hp6.below).frz
  have hr1 : ∀ w, (execOp a6.eval { dst := none, op := .go ⟨.value (.tmp 6), #[], #[]⟩, type := 0, pos := "waitgroup.go:238", after := #[{ on := 0, ground := .data }], guard := none }).run Try.prog w = .ok (.spawn (goD ⟨b2, 0, none⟩ ⟨b3, 0, none⟩)) w := fun w => by
    simp [execOp, resolve, m6, Deferred.ofValue, dV]
  have hr2 : ∀ w, (execOp a6.eval { dst := none, op := .go ⟨.value (.tmp 6), #[], #[]⟩, type := 0, pos := "waitgroup.go:238", after := #[{ on := 0, ground := .data }], guard := none }).events Try.prog w #[] = #[] := fun w => by
    simp [execOp, resolve, m6, Deferred.ofValue, dV]
  have hl : ∀ w, listed Try.prog 45 a6 { dst := none, op := .go ⟨.value (.tmp 6), #[], #[]⟩, type := 0, pos := "waitgroup.go:238", after := #[{ on := 0, ground := .data }], guard := none } w = #[] := fun w => by
    unfold listed
    rw [hr2 w, seen_none]
  refine ⟨rfl, _, _, fun w _ => (stepG_spawn rfl rfl (by decide) (hr1 w) rfl).trans (congrArg (fun e => GStep.spawn _ _ _ e) (hl w)), rfl, works (q0 := q0) H (by omega) hD hW (hown _) (hfin _) hK6 ?_ ?_ ?_, ?_⟩
  · rw [hn]; exact Cl.frz (hp6.ents _ (List.mem_cons_of_mem _ (List.mem_cons_of_mem _ List.mem_cons_self))).cl
  · rw [frz_cell]; exact cell_ptr (hp6.ents _ (List.mem_cons_of_mem _ List.mem_cons_self)).cl
  · rw [frz_cell]; exact cell_fn (hp6.ents _ List.mem_cons_self).cl
  refine .ctl rfl (fun _ => stepG_region_end) ?_
  refine .ctl rfl (fun _ => stepG_end) ?_
  refine go_leave0 rfl hd6 Try.func45 rfl ?_
  refine .ctl rfl (fun _ => stepG_region_end) ?_
  refine .ctl rfl (fun _ => stepG_inBlock) ?_
  have m7 : Models 104 ((48, .tuple #[]) :: (47, C.fnv q0) :: (12, .pointer (some (adr (some ⟨q0, 0, none⟩) 0))) :: C.senv Wg x1 (C.n - (r + 1))) (a2.put (some 48) (.tuple #[])) := m2.put (by decide) (by simp [cn])
  have hn8 := H.hn8
  refine (next17 (i := C.n - (r + 1)) (by omega) _ (Y.frz v6) (m7.mono (Cov.get (.cons rfl (.cons rfl (.cons rfl (.cons rfl (.cons rfl (.cons rfl (.cons rfl (.cons rfl .nil)))))))))) (Hp.refl _)) true _ _ _ _ hk ?_
  rintro e a8 v8 ⟨rfl, m8, b8⟩
  rw [show C.n - (r + 1) + 1 = C.n - r by omega] at m8
  exact hnext a8 v8 m8 (hK6.below b8)
/-- The loop, and the wait. -/
theorem loop17 (H : C.Ok) (hk : b.kind ≠ .early) (hD : D.ty = lnk.tWg) (hW : D.Wg = Wg) (hn : D.n = C.n) (hown : ∀ i j, j < C.nb → j % C.n = i → D.own i ⟨C.bA, j, none⟩ ∧ D.own i ⟨C.bB, j, none⟩) (hfin : ∀ i σ v k, C.nb ≤ k → C.Got i k σ v → D.fin i σ v)
    {S : Goroutine → World → Prop} (hrest : ∀ a v', Models 104 (C.senv Wg x1 C.n) a → Join D v' → @Go3 phC Try.prog true S (G (b.at a (.code Rest17 :: k)) cs) v') :
    ∀ (r : Nat), r ≤ C.n → ∀ (a : Act) (v : World), Models 104 (C.senv Wg x1 (C.n - r)) a → C.Kn v → SP D (@Go3 phC Try.prog true S) r (G (b.at a (.code LB17 :: .inLoop LB17 :: .inBlock 0 :: .code (.seq R10 Rest17) :: k)) cs) v := by
  intro r
  induction r with
  | zero =>
    intro hr a v ha hK
    refine Go3.ctl (g' := G (b.at a (.code R6 :: .code (.seq (.cond C17 .skip (.exit 0)) (.seq (.block 1 (.seq R7 R8)) R9)) :: .inLoop LB17 :: .inBlock 0 :: .code (.seq R10 Rest17) :: k)) cs) rfl (fun _ => stepG_seq) ?_
    refine (head17 a v ha (Hp.refl v)) true _ _ _ _ hk ?_
    rintro e a1 v1 ⟨rfl, m1, b1⟩
    refine .ctl rfl (fun _ => stepG_seq) ?_
    have e45 : a1.eval C17 = .bool false := by
      obtain ⟨v', g1, g2⟩ := m1.get 45 _ rfl
      rw [decide_eq_false (by omega)] at g2
      rw [C17_is]
      simp [Act.eval, g1, cn_bool g2]
    refine .ctl rfl (fun _ => stepG_cond e45) ?_
    refine .ctl rfl (fun _ => stepG_exit rfl) ?_
    refine .ctl rfl (fun _ => stepG_seq) ?_
    refine .ctl rfl (fun _ => stepG_region) ?_
    have m2 : Models 104 (C.senv Wg x1 (C.n - 0)) a1 := m1.mono (Cov.get (.cons rfl (.cons rfl (.cons rfl (.cons rfl (.cons rfl (.cons rfl (.cons rfl (.cons rfl .nil)))))))))
    have u11 := Models.exact m2 (t := 11) rfl
    refine go_in (c := body_wait lnk) #[.pointer (some ⟨Wg, 0, none⟩)] lib.f_wait rfl rfl rfl hk (frop_of (by kernel_rfl) _ fun _ => rfl) (fun v4 hx => ?_) ?_
    · simp [Act.eval] at u11
      simp [execOp, resolve, u11, adr, Deferred.ofValue, invoke, callFunc, Act.eval, lib.f_wait, waitFn]
    rw [show (waitFn lnk).ntmps = 84 from rfl]
    walk_nrm
    refine .stop fun v5 hx5 => ⟨rfl, ?_⟩
    rw [hD, hW]
    refine waitM lib (fun g g' hs h hn v' hJ => @Go3.ctl phC _ _ _ _ _ _ hs h (hn v' hJ)) fun v' hJ => ?_
    refine @Go3.ctl phC _ _ _ _ _ _ rfl (fun _ => stepG_region_end) (hrest _ v' ?_ hJ)
    have m3 : Models 104 ((50, .tuple #[]) :: C.senv Wg x1 (C.n - 0)) (a1.put (some 50) (.tuple #[])) := m2.put (by decide) (by simp [cn])
    exact m3.mono (Cov.get (.cons rfl (.cons rfl (.cons rfl (.cons rfl (.cons rfl (.cons rfl (.cons rfl (.cons rfl .nil)))))))))
  | succ r ih =>
    intro hr a v ha hK
    refine Go3.ctl (g' := G (b.at a (.code R6 :: .code (.seq (.cond C17 .skip (.exit 0)) (.seq (.block 1 (.seq R7 R8)) R9)) :: .inLoop LB17 :: .inBlock 0 :: .code (.seq R10 Rest17) :: k)) cs) rfl (fun _ => stepG_seq) ?_
    refine (head17 a v ha (Hp.refl v)) true _ _ _ _ hk ?_
    rintro e a1 v1 ⟨rfl, m1, b1⟩
    refine .ctl rfl (fun _ => stepG_seq) ?_
    have e45 : a1.eval C17 = .bool true := by
      obtain ⟨v', g1, g2⟩ := m1.get 45 _ rfl
      rw [decide_eq_true (by omega)] at g2
      rw [C17_is]
      simp [Act.eval, g1, cn_bool g2]
    refine .ctl rfl (fun _ => stepG_cond e45) ?_
    refine .ctl rfl (fun _ => stepG_skip) ?_
    refine spawn17 H hk hD hW hn hown hfin hr (m1.mono (Cov.get (.cons rfl (.cons rfl (.cons rfl (.cons rfl (.cons rfl (.cons rfl (.cons rfl (.cons rfl .nil)))))))))) (hK.below b1) fun a2 v2 m2 hK2 => ?_
    exact .ctl rfl (fun _ => stepG_inLoop) (ih (by omega) a2 v2 m2 hK2)
end
end Go.Proofs.Ytgeflnjjppgooaa.Q

namespace Go.Proofs.Ytgeflnjjppgooaa.Q
open Go Go.Conc Go.RowKit Go.Proofs.Ytgeflnjjppgooaa.Y Go.Conc.Lib Go.ConcR.Gen Go.ConcN.Gen
set_option maxRecDepth 20000
set_option linter.unusedSimpArgs false
set_option linter.unusedVariables false
theorem ent_exact {B b cap : Nat} {w : World} {us : List Value} {ty : TypeId} (h : Ent.at B w ⟨some ⟨b, 0, none⟩, us, cap, ty⟩) (hc : cap ≠ 0) (ht : ty ≠ 5) :
    B ≤ b ∧ ∃ c, w.heap[b]? = some (.cells c ty) ∧ c.size = cap ∧ ∀ (i : Nat) (u : Value), us[i]? = some u → ∃ v, c[i]? = some v ∧ cn v = u := by
  rcases h with h | ⟨b', c, h1, h2, ⟨z, h3, h4⟩, h5, _, h6⟩
  · exact absurd h.2 hc
  · cases h1
    rcases h4 with rfl | ⟨h4, _⟩
    · exact ⟨h2, c, h3, h5, h6⟩
    · exact absurd h4 ht
theorem Cl.kill {v : World} {S : Nat → Bool} {a : Option Addr} {us : List Value} (h : Cl v a us) (hS : ∀ p, a = some p → us ≠ [] → S p.block = false) : Cl (Y.kill S v) a us := by
  rcases h with h | ⟨p, h1, h2, h3⟩
  · exact .inl h
  · by_cases hu : us = []
    · exact .inl hu
    · refine .inr ⟨p, h1, h2, fun i u hi => ?_⟩
      obtain ⟨x, hx, hc⟩ := h3 i u hi
      exact ⟨x, (kill_cell (a := ⟨p.block, p.off + i, none⟩) (hS p h1 hu)).trans hx, hc⟩
theorem Cl.root_lt {w : World} {a : Option Addr} {us : List Value} (h : Cl w a us) {p : Addr} (hp : a = some p) (hu : us ≠ []) : p.block < w.heap.size := by
  rcases h with h | ⟨q, h1, h2, h3⟩
  · exact absurd h hu
  · rw [hp] at h1; cases h1
    cases us with
    | nil => exact absurd rfl hu
    | cons u us =>
      obtain ⟨x, hx, _⟩ := h3 0 u rfl
      exact World.block_lt_of_cell (p := ⟨p.block, p.off + 0, none⟩) hx
/-- .. in any world in which its block stands as it stood. -/
theorem Cl.stay {v w : World} {a : Option Addr} {us : List Value} (h : Cl v a us) (hS : ∀ p, a = some p → us ≠ [] → w.heap[p.block]? = v.heap[p.block]?) : Cl w a us := by
  rcases h with h | ⟨p, h1, h2, h3⟩
  · exact .inl h
  · by_cases hu : us = []
    · exact .inl hu
    · refine .inr ⟨p, h1, h2, fun i u hi => ?_⟩
      obtain ⟨x, hx, hc⟩ := h3 i u hi
      exact ⟨x, by rw [World.cell?, hS p h1 hu]; exact hx, hc⟩
section
variable (C : WC)
def WC.rA : List (List Nat) := (List.range C.nb).map C.ka
def WC.rB : List (List Nat) := (List.range C.nb).map C.kb
/-- Behind the join. -/
structure WC.Done (v : World) (fA fB : Nat → Option Addr × Nat) : Prop where
  kn : C.Kn v
  cA : Cl v (some ⟨C.bA, 0, none⟩) (hd fA C.rA)
  cB : Cl v (some ⟨C.bB, 0, none⟩) (hd fB C.rB)
  rwA : Rws v fA C.rA
  rwB : Rws v fB C.rB
def WC.ents (Wg : Nat) : List Ent :=
  [⟨some ⟨Wg, 0, none⟩, [.int .u64 0, .int .u32 0], 2, 76⟩, ⟨some ⟨C.q4, 0, none⟩, [.slice (some ⟨C.bB, 0, none⟩) C.nb C.nb], 1, 22⟩, ⟨some ⟨C.q3, 0, none⟩, [.slice (some ⟨C.bA, 0, none⟩) C.nb C.nb], 1, 22⟩,
   ⟨some ⟨C.bB, 0, none⟩, cycle [Value.slice none 0 0] C.nb, C.nb * 1, 23⟩, ⟨some ⟨C.bA, 0, none⟩, cycle [Value.slice none 0 0] C.nb, C.nb * 1, 23⟩, ⟨some ⟨C.q2, 0, none⟩, [.int .i64 (C.n : Int)], 1, 2⟩,
   ⟨some ⟨C.q1, 0, none⟩, [.slice C.a C.xss.length C.c, .slice C.a1 C.ws.length C.c1, .slice C.a2 C.gs.length C.c2], 3, 30⟩]
def WC.sc (Wg : Nat) (v : World) : Sc where
  ty := lnk.tWg
  ety := 22
  c := C.q3
  x := .slice (some ⟨C.bA, 0, none⟩) C.nb C.nb
  Wg := Wg
  n := C.n
  vb := v
  arr := fun b => b == C.bA || b == C.bB
  own := fun i a => ∃ j, j < C.nb ∧ j % C.n = i ∧ (a = ⟨C.bA, j, none⟩ ∨ a = ⟨C.bB, j, none⟩)
  fin := fun i σ v => ∃ k, C.nb ≤ k ∧ C.Got i k σ v
end
section
variable {C : WC} {Wg : Nat} {w0 v : World}
/-- Where the call's own blocks lie. -/
structure WC.Own (C : WC) (Wg : Nat) (w0 v : World) : Prop where
  lo : ∀ b ∈ [Wg, C.q4, C.q3, C.bB, C.bA, C.q2, C.q1], w0.heap.size ≤ b
  ne : [Wg, C.q4, C.q3, C.bB, C.bA, C.q2, C.q1].Nodup
  wg : v.heap[Wg]? = some (.cells #[.int .u64 0, .int .u32 0] 76)
  c3 : v.heap[C.q3]? = some (.cells #[.slice (some ⟨C.bA, 0, none⟩) C.nb C.nb] 22)
  bA : ∃ c, v.heap[C.bA]? = some (.cells c 23) ∧ c.size = C.nb
  bB : ∃ c, v.heap[C.bB]? = some (.cells c 23) ∧ c.size = C.nb
theorem nb_pos (H : C.Ok) : 0 < C.nb := by
  have := H.hval.1
  unfold WC.nb blocksN
  omega
theorem WC.own_of (H : C.Ok) (hw : Hp w0 (C.ents Wg) v) : C.Own Wg w0 v := by
  have hnb := nb_pos H
  have hap := hw.apart
  have he := hw.ents
  simp only [WC.ents, List.pairwise_cons, List.mem_cons, forall_eq_or_imp, List.not_mem_nil, false_imp_iff, implies_true, and_true, List.Pairwise.nil, forall_eq] at hap he
  obtain ⟨g1, g2, g3, g4, g5, g6, g7⟩ := he
  have k1 := ent_exact g1 (by decide) (by decide)
  have k2 := ent_exact g2 (by decide) (by decide)
  have k3 := ent_exact g3 (by decide) (by decide)
  have k4 := ent_exact g4 (by omega) (by decide)
  have k5 := ent_exact g5 (by omega) (by decide)
  have k6 := ent_exact g6 (by decide) (by decide)
  have k7 := ent_exact g7 (by decide) (by decide)
  have hne : ∀ {b b' : Nat} {us us' : List Value} {n n' : Nat} {t t' : TypeId}, Ent.apart ⟨some ⟨b, 0, none⟩, us, n, t⟩ ⟨some ⟨b', 0, none⟩, us', n', t'⟩ → n ≠ 0 → n' ≠ 0 → b ≠ b' := fun h h1 h2 => h h1 h2 _ _ rfl rfl
  obtain ⟨⟨a12, a13, a14, a15, a16, a17⟩, ⟨a23, a24, a25, a26, a27⟩, ⟨a34, a35, a36, a37⟩, ⟨a45, a46, a47⟩, ⟨a56, a57⟩, a67⟩ := hap
  refine ⟨fun b hb => ?_, ?_, ?_, ?_, ?_, ?_⟩
  · simp only [List.mem_cons, List.not_mem_nil, or_false] at hb
    rcases hb with rfl | rfl | rfl | rfl | rfl | rfl | rfl
    · exact k1.1
    · exact k2.1
    · exact k3.1
    · exact k4.1
    · exact k5.1
    · exact k6.1
    · exact k7.1
  · simp only [List.nodup_cons, List.mem_cons, List.not_mem_nil, or_false, not_or, not_false_eq_true, List.nodup_nil, and_true]
    exact ⟨⟨hne a12 (by omega) (by omega), hne a13 (by omega) (by omega), hne a14 (by omega) (by omega), hne a15 (by omega) (by omega), hne a16 (by omega) (by omega), hne a17 (by omega) (by omega)⟩, ⟨hne a23 (by omega) (by omega), hne a24 (by omega) (by omega), hne a25 (by omega) (by omega), hne a26 (by omega) (by omega), hne a27 (by omega) (by omega)⟩, ⟨hne a34 (by omega) (by omega), hne a35 (by omega) (by omega), hne a36 (by omega) (by omega), hne a37 (by omega) (by omega)⟩, ⟨hne a45 (by omega) (by omega), hne a46 (by omega) (by omega), hne a47 (by omega) (by omega)⟩, ⟨hne a56 (by omega) (by omega), hne a57 (by omega) (by omega)⟩, hne a67 (by omega) (by omega)⟩
  · obtain ⟨_, c, h1, h2, h3⟩ := k1
    have e : c = #[.int .u64 0, .int .u32 0] := by
      obtain ⟨x, hx, hc⟩ := h3 0 _ rfl
      obtain ⟨y, hy, hd⟩ := h3 1 _ rfl
      rw [cn_int hc] at hx
      rw [cn_int hd] at hy
      apply Array.ext_getElem?
      intro i
      match i with
      | 0 => exact hx
      | 1 => exact hy
      | i + 2 => rw [Array.getElem?_eq_none (by omega), Array.getElem?_eq_none (by simp)]
    rw [h1, e]
  · obtain ⟨_, c, h1, h2, h3⟩ := k3
    have e : c = #[.slice (some ⟨C.bA, 0, none⟩) C.nb C.nb] := by
      obtain ⟨x, hx, hc⟩ := h3 0 _ rfl
      rw [cn_slice hc] at hx
      apply Array.ext_getElem?
      intro i
      match i with
      | 0 => exact hx
      | i + 1 => rw [Array.getElem?_eq_none (by omega), Array.getElem?_eq_none (by simp)]
    rw [h1, e]
  · obtain ⟨_, c, h1, h2, _⟩ := k5
    exact ⟨c, h1, by omega⟩
  · obtain ⟨_, c, h1, h2, _⟩ := k4
    exact ⟨c, h1, by omega⟩
end
end Go.Proofs.Ytgeflnjjppgooaa.Q

namespace Go.Proofs.Ytgeflnjjppgooaa.Q
open Go Go.Conc Go.RowKit Go.Proofs.Ytgeflnjjppgooaa.Y Go.Conc.Lib Go.ConcR.Gen Go.ConcN.Gen
set_option maxRecDepth 20000
set_option linter.unusedSimpArgs false
set_option linter.unusedVariables false
section
variable {C : WC} {Wg : Nat} {w0 v : World}
/-- What the workers look at lies in no block that is theirs to write. -/
structure WC.Root (C : WC) (w0 : World) : Prop where
  hA : Cl w0 C.a (hd C.f C.xss)
  hR : Rws w0 C.f C.xss
  hW : Cl w0 C.a1 (fl C.ws)
  hG : Cl w0 C.a2 (fl C.gs)
theorem kn_of (R : C.Root w0) (hw : Hp w0 (C.ents Wg) v) : C.Kn v := by
  have he := hw.ents
  simp only [WC.ents, List.mem_cons, forall_eq_or_imp, List.not_mem_nil, false_imp_iff, implies_true, and_true, forall_eq] at he
  obtain ⟨g1, g2, g3, g4, g5, g6, g7⟩ := he
  exact ⟨g7.cl, g6.cl, g3.cl, g2.cl, R.hA.below hw.below, fun i hi => (R.hR i hi).below hw.below, R.hW.below hw.below, R.hG.below hw.below⟩
/-- Kn where all blocks but the group's and the two lists' stand as they stood. -/
theorem kn_stay (R : C.Root w0) (hb : Below w0.heap.size w0 v) (hO : C.Own Wg w0 v) (hK : C.Kn v) {P : World → Option Addr → List Value → Prop} {w : World} (hP : ∀ a us, Cl v a us → (∀ p, a = some p → us ≠ [] → p.block ≠ Wg ∧ p.block ≠ C.bA ∧ p.block ≠ C.bB) → Cl w a us) : C.Kn w := by
  have hlo := hO.lo
  have hne := hO.ne
  simp only [List.mem_cons, forall_eq_or_imp, List.not_mem_nil, false_imp_iff, implies_true, and_true, forall_eq] at hlo
  simp only [List.nodup_cons, List.mem_cons, List.not_mem_nil, or_false, not_or, not_false_eq_true, List.nodup_nil, and_true] at hne
  obtain ⟨l1, l2, l3, l4, l5, l6, l7⟩ := hlo
  obtain ⟨⟨a12, a13, a14, a15, a16, a17⟩, ⟨a23, a24, a25, a26, a27⟩, ⟨a34, a35, a36, a37⟩, ⟨a45, a46, a47⟩, ⟨a56, a57⟩, a67⟩ := hne
  have hroot : ∀ a us, Cl w0 a us → Cl v a us → Cl w a us := fun a us h0 h => hP a us h fun p hp hu => by
    have := Cl.root_lt h0 hp hu
    omega
  have hq : ∀ q us, q ≠ Wg → q ≠ C.bA → q ≠ C.bB → Cl v (some ⟨q, 0, none⟩) us → Cl w (some ⟨q, 0, none⟩) us := fun q us h1 h2 h3 h => hP _ us h fun p hp _ => by cases hp; exact ⟨h1, h2, h3⟩
  exact ⟨hq _ _ (Ne.symm a17) (Ne.symm a57) (Ne.symm a47) hK.h1, hq _ _ (Ne.symm a16) (Ne.symm a56) (Ne.symm a46) hK.h2, hq _ _ (Ne.symm a13) a35 a34 hK.h3, hq _ _ (Ne.symm a12) a25 a24 hK.h4,
    hroot _ _ R.hA hK.hA, fun i hi => hroot _ _ (R.hR i hi) (hK.hR i hi), hroot _ _ R.hW hK.hW, hroot _ _ R.hG hK.hG⟩
theorem kn_begin (R : C.Root w0) (hb : Below w0.heap.size w0 v) (hO : C.Own Wg w0 v) (hK : C.Kn v) : C.Kn (begin_ (C.sc Wg v)) :=
  kn_stay (P := fun _ _ _ => True) R hb hO hK fun a us h hp => Cl.kill (Cl.frz h) fun p e hu => by
    obtain ⟨h1, h2, h3⟩ := hp p e hu
    simp [WC.sc, h1, h2, h3]
theorem phOk (H : C.Ok) (hO : C.Own Wg w0 v) : PhOk (C.sc Wg v) := by
  have hne := hO.ne
  simp only [List.nodup_cons, List.mem_cons, List.not_mem_nil, or_false, not_or, not_false_eq_true, List.nodup_nil, and_true] at hne
  obtain ⟨⟨a12, a13, a14, a15, a16, a17⟩, ⟨a23, a24, a25, a26, a27⟩, ⟨a34, a35, a36, a37⟩, ⟨a45, a46, a47⟩, ⟨a56, a57⟩, a67⟩ := hne
  obtain ⟨cA, hA1, hA2⟩ := hO.bA
  obtain ⟨cB, hB1, hB2⟩ := hO.bB
  have hnb := nb_pos H
  have harr : ∀ b, (C.sc Wg v).arr b = true → b = C.bA ∨ b = C.bB := fun b h => by simpa [WC.sc] using h
  have hcells : ∀ b, (C.sc Wg v).arr b = true → ∃ c, v.heap[b]? = some (.cells c 23) ∧ c.size = C.nb := fun b h => by
    rcases harr b h with rfl | rfl
    · exact ⟨cA, hA1, hA2⟩
    · exact ⟨cB, hB1, hB2⟩
  refine ⟨?_, hO.wg, fun b hb => ⟨?_, ?_⟩, fun b hb => ?_, fun i a ⟨j, h1, h2, h3⟩ => ?_, fun i i' a ⟨j, h1, h2, h3⟩ ⟨j', h1', h2', h3'⟩ => ?_, ⟨fun e => a13 e.symm, ?_, hO.c3⟩, fun i σ v v1 ⟨k, h1, h2⟩ hx => ⟨k, h1, h2.below hx⟩⟩
  · have := H.hn8
    show C.n < 2147483648
    omega
  · rcases harr b hb with rfl | rfl
    · exact fun e => a15 e.symm
    · exact fun e => a14 e.symm
  · obtain ⟨c, h1, _⟩ := hcells b hb
    exact ⟨c, _, h1⟩
  · obtain ⟨c, h1, h2⟩ := hcells b hb
    refine ⟨c, _, _, h1, ?_, ?_⟩
    · rintro rfl; simp at h2; omega
    · intro e; have := congrArg Prod.snd e; simp at this; omega
  · have hin : ∀ (b : Nat) (c : Array Value), v.heap[b]? = some (.cells c 23) → c.size = C.nb → ∃ y, v.cell? ⟨b, j, none⟩ = some y := fun b c g1 g2 => ⟨c[j], by simp [World.cell?, g1, g2, h1]⟩
    rcases h3 with rfl | rfl
    · exact ⟨by simp [WC.sc], rfl, hin _ _ hA1 hA2⟩
    · exact ⟨by simp [WC.sc], rfl, hin _ _ hB1 hB2⟩
  · have : j = j' := by
      rcases h3 with rfl | rfl <;> rcases h3' with e | e
      · exact congrArg Addr.off e
      · exact absurd (congrArg Addr.block e).symm a45
      · exact absurd (congrArg Addr.block e) a45
      · exact congrArg Addr.off e
    subst this
    exact h2.symm.trans h2'
  · simp only [WC.sc, Bool.or_eq_false_iff, beq_eq_false_iff_ne]
    exact ⟨a35, a34⟩
theorem N_pos (H : C.Ok) : 0 < C.N := by
  have := H.hval.2.2.2.2.2.2.1
  unfold WC.N
  omega
theorem ka_length (k : Nat) : (C.ka k).length = C.N * C.N := blockA_length _ _ _ _ _
theorem kb_length (k : Nat) : (C.kb k).length = C.N := blockB_length _ _ _ _ _ _
theorem rA_get {j : Nat} (h : j < C.nb) : C.rA.getD j [] = C.ka j := by simp [WC.rA, h]
theorem rB_get {j : Nat} (h : j < C.nb) : C.rB.getD j [] = C.kb j := by simp [WC.rB, h]
/-- An entry of a worker's lies behind the join as the worker left it. -/
theorem ent_join {vi v' : World} {x cap : Nat} {us : List Value} (h : Ent.at 0 vi ⟨some ⟨x, 0, none⟩, us, cap, 26⟩) (hc : cap ≠ 0) (hj : ∀ b, Liv vi b → v'.heap[b]? = vi.heap[b]?) : Cl v' (some ⟨x, 0, none⟩) us := by
  obtain ⟨_, c, h1, h2, _⟩ := ent_exact h hc (by decide)
  have hl : Liv vi x := ⟨c, _, _, h1, by rintro rfl; simp at h2; omega, fun e => by have := congrArg Prod.snd e; simp at this; omega⟩
  exact Cl.stay h.cl fun p hp _ => by cases hp; exact hj x hl
theorem done_of (H : C.Ok) (R : C.Root w0) (hb : Below w0.heap.size w0 v) (hO : C.Own Wg w0 v) (hK : C.Kn v) {v' : World} (hJ : Join (C.sc Wg v) v') : Below w0.heap.size w0 v' ∧ ∃ fA fB, C.Done v' fA fB := by
  have hN := N_pos H
  have hlo := hO.lo
  simp only [List.mem_cons, forall_eq_or_imp, List.not_mem_nil, false_imp_iff, implies_true, and_true, forall_eq] at hlo
  obtain ⟨l1, l2, l3, l4, l5, l6, l7⟩ := hlo
  have hsz : w0.heap.size ≤ v.heap.size := hb.size
  have hold : ∀ b, b < v.heap.size → b ≠ Wg → b ≠ C.bA → b ≠ C.bB → v'.heap[b]? = v.heap[b]? := fun b h1 h2 h3 h4 => hJ.old b h1 h2 (by simp [WC.sc, h3, h4])
  have hbv : Below w0.heap.size w0 v' := ⟨hJ.os.trans hb.os, hJ.tape.trans hb.tape, hJ.output.trans hb.output, Nat.le_trans hb.size hJ.size, fun k hk => (hold k (by omega) (by omega) (by omega) (by omega)).trans (hb.block k hk)⟩
  refine ⟨hbv, ?_⟩
  have hkn : C.Kn v' := kn_stay (P := fun _ _ _ => True) R hb hO hK fun a us h hp => Cl.stay h fun p e hu => by
    obtain ⟨h1, h2, h3⟩ := hp p e hu
    exact hold _ (Cl.root_lt h e hu) h1 h2 h3
  have hx : ∀ j, ∃ x1 x2, j < C.nb → v'.cell? ⟨C.bA, j, none⟩ = some (.slice (some ⟨x1, 0, none⟩) (C.N * C.N) (C.N * C.N)) ∧ v'.cell? ⟨C.bB, j, none⟩ = some (.slice (some ⟨x2, 0, none⟩) C.N C.N) ∧ Cl v' (some ⟨x1, 0, none⟩) (fl (C.ka j)) ∧ Cl v' (some ⟨x2, 0, none⟩) (fl (C.kb j)) := by
    intro j
    by_cases hj : j < C.nb
    · obtain ⟨σ, vi, ⟨k, hk, hg⟩, h2, h3⟩ := hJ.wk (j % C.n) (Nat.mod_lt _ H.hn)
      obtain ⟨x1, x2, m1, m2, e1, e2⟩ := hg.got j (by omega) hj rfl
      have hNN : C.N * C.N ≠ 0 := Nat.mul_ne_zero (by omega) (by omega)
      exact ⟨x1, x2, fun _ => ⟨h3 _ m1, h3 _ m2, ent_join e1 (by omega) h2, ent_join e2 (by omega) h2⟩⟩
    · exact ⟨0, 0, fun h => absurd h hj⟩
  refine ⟨fun j => (some ⟨(hx j).choose, 0, none⟩, C.N * C.N), fun j => (some ⟨(hx j).choose_spec.choose, 0, none⟩, C.N), hkn, ?_, ?_, fun j hj => ?_, fun j hj => ?_⟩
  · refine .inr ⟨_, rfl, rfl, fun j u hu => ?_⟩
    have hlt : j < C.nb := by have := (List.getElem?_eq_some_iff.1 hu).1; simpa [hd, WC.rA] using this
    rw [hd_get (by simpa [WC.rA] using hlt), rA_get hlt, ka_length] at hu
    cases hu
    have := ((hx j).choose_spec.choose_spec hlt).1
    exact ⟨_, by simpa using this, by simp [cn, cn1, cn0]⟩
  · refine .inr ⟨_, rfl, rfl, fun j u hu => ?_⟩
    have hlt : j < C.nb := by have := (List.getElem?_eq_some_iff.1 hu).1; simpa [hd, WC.rB] using this
    rw [hd_get (by simpa [WC.rB] using hlt), rB_get hlt, kb_length] at hu
    cases hu
    have := ((hx j).choose_spec.choose_spec hlt).2.1
    exact ⟨_, by simpa using this, by simp [cn, cn1, cn0]⟩
  · have hlt : j < C.nb := by simpa [WC.rA] using hj
    rw [rA_get hlt]
    exact ((hx j).choose_spec.choose_spec hlt).2.2.1
  · have hlt : j < C.nb := by simpa [WC.rB] using hj
    rw [rB_get hlt]
    exact ((hx j).choose_spec.choose_spec hlt).2.2.2
end
section
variable {C : WC} {Wg x1 : Nat} {w0 : World} {E : Env} {Q : Exit → Act → World → Prop}
def WC.penv (C : WC) (Wg x1 : Nat) : Env := [(11, .pointer (some (adr (some ⟨Wg, 0, none⟩) 0))), (3, .pointer (some (adr (some ⟨C.q1, 0, none⟩) 0))), (5, .pointer (some (adr (some ⟨C.q2, 0, none⟩) 0))), (9, .pointer (some (adr (some ⟨C.q3, 0, none⟩) 0))), (10, .pointer (some (adr (some ⟨C.q4, 0, none⟩) 0))), (1, .float .f32 x1)]
theorem fb2 : flatB Try.prog 2 = true := by kernel_rfl
theorem start17 : V Try.prog 104 w0 (C.ents Wg) (C.penv Wg x1) R5 (fun e a' w' => e = .normal ∧ Models 104 (C.senv Wg x1 0) a' ∧ Hp w0 (C.ents Wg) w') := by
  refine V.region ?_
  refine VL.q (.inl rfl) rfl (by decide) (yq_load rfl fb2 rfl (Sees.own (List.mem_cons_of_mem _ (List.mem_cons_of_mem _ (List.mem_cons_of_mem _ (List.mem_cons_of_mem _ (List.mem_cons_of_mem _ List.mem_cons_self)))))) rfl) ?_
  refine VL.r (.inl rfl) rfl (by decide) (yr_move rfl rfl) ?_
  exact VL.nil fun a' w' ha hw => ⟨rfl, ha.mono (Cov.get (.cons rfl (.cons rfl (.cons rfl (.cons rfl (.cons rfl (.cons rfl (.cons rfl (.cons rfl .nil))))))))), hw⟩
/-- ████ THE WORKERS' PHASE. ████ -/
theorem workers17 (H : C.Ok) (R : C.Root w0) (hE : Cov E (C.penv Wg x1))
    (hrest : ∀ v' fA fB, Below w0.heap.size w0 v' → C.Done v' fA fB → V Try.prog 104 v' [] (C.senv Wg x1 C.n) Rest17 Q) : V Try.prog 104 w0 (C.ents Wg) E J17 Q := by
  intro a w ha hw m b k cs S hk hc
  refine Go3.ctl (g' := G (b.at a (.code (.seq R5 (.block 0 (.loop LB17))) :: .code (.seq R10 Rest17) :: k)) cs) rfl (fun _ => stepG_seq) ?_
  refine .ctl rfl (fun _ => stepG_seq) ?_
  refine start17 a w (ha.mono hE.get) hw m _ _ _ _ hk ?_
  rintro e a1 w1 ⟨rfl, m1, hp⟩
  refine .ctl rfl (fun _ => stepG_block) ?_
  refine .ctl rfl (fun _ => stepG_loop) ?_
  refine .phase (fun _ => Go3 Try.prog true S) (fun v1 hx => ?_) (fun _ _ _ _ h => h)
  have hp1 := hp.ext hx
  have hO := WC.own_of H hp1
  have hK := kn_of R hp1
  refine ⟨rfl, C.sc Wg v1, rfl, phOk H hO, ?_⟩
  refine loop17 (D := C.sc Wg v1) H hk rfl rfl rfl (fun i j h1 h2 => ⟨⟨j, h1, h2, .inl rfl⟩, ⟨j, h1, h2, .inr rfl⟩⟩) (fun i σ v k h1 h2 => ⟨k, h1, h2⟩) (fun a2 v' m2 hJ => ?_) C.n (Nat.le_refl _) a1 _ (by rw [Nat.sub_self]; exact m1) (kn_begin R hp1.below hO hK)
  obtain ⟨hb, fA, fB, hD⟩ := done_of H R hp1.below hO hK hJ
  exact hrest v' fA fB hb hD a2 v' m2 (Hp.refl v') m b k cs S hk hc
/-- .. where it is not yet known that the two lists lie apart. -/
theorem workers17' (hsz : bulk C.xss + C.ws.length + C.gs.length ≤ 1050000) (hval : ValidP C.xss C.ws C.gs) (hn : 1 ≤ C.n) (hn8 : C.n ≤ 8) (hA : Cl w0 C.a (hd C.f C.xss)) (hR : Rws w0 C.f C.xss) (hW : Cl w0 C.a1 (fl C.ws)) (hG : Cl w0 C.a2 (fl C.gs)) (hE : Cov E (C.penv Wg x1))
    (hrest : ∀ v' fA fB, Below w0.heap.size w0 v' → C.Done v' fA fB → V Try.prog 104 v' [] (C.senv Wg x1 C.n) Rest17 Q) : V Try.prog 104 w0 (C.ents Wg) E J17 Q := by
  intro a w ha hw
  have hap := hw.apart
  simp only [WC.ents, List.pairwise_cons, List.mem_cons, forall_eq_or_imp, List.not_mem_nil, false_imp_iff, implies_true, and_true, List.Pairwise.nil, forall_eq] at hap
  obtain ⟨_, _, _, ⟨a45, _⟩, _⟩ := hap
  have hnb : 0 < C.nb := by have := hval.1; unfold WC.nb blocksN; omega
  have hAB : C.bA ≠ C.bB := fun e => a45 (by show C.nb * 1 ≠ 0; omega) (by show C.nb * 1 ≠ 0; omega) _ _ rfl rfl e.symm
  exact workers17 ⟨hsz, hval, hn, hn8, hAB⟩ ⟨hA, hR, hW, hG⟩ hE hrest a w ha hw
end
/-- What is new since v' is new since w0. -/
theorem outs_from {w0 v' w1 : World} {N : List Ent} (hb : Below w0.heap.size w0 v') (h : Below v'.heap.size v' w1 ∧ (∀ f ∈ N, f.at v'.heap.size w1) ∧ N.Pairwise Ent.apart) : Below w0.heap.size w0 w1 ∧ (∀ f ∈ N, f.at w0.heap.size w1) ∧ N.Pairwise Ent.apart :=
  ⟨hb.trans (h.1.mono hb.size), fun e he => (h.2.1 e he).imp_right fun ⟨b, c, h1, h2, h3⟩ => ⟨b, c, h1, Nat.le_trans hb.size h2, h3⟩, h.2.2⟩
end Go.Proofs.Ytgeflnjjppgooaa.Q
