/- Own texts of this claim, merged: Yf, Yg, Yh, Yi, Yj, Yk, Yl, Ym, Yn, Yo, Yp. -/
import Derived.Conc.LeavingOf
import Derived.Test.YtgeflnjjppgooaaKFnExactFitCurrents9
namespace Go.Proofs.Ytgeflnjjppgooaa.Y
open Go Go.Conc Go.RowKit Go.Proofs.Ytgeflnjjppgooaa Go.Proofs.Ytgeflnjjppgooaa.Q
open Go.ConcR (KK wgBlock WgAt stA smA rd wr mk Payload DC0 g_of_ofEvents)
open Go.ConcN (WgLive PayAt Has RW DWs AtR0 WSit WD upd upd_same upd_ne CTag RelBy norel_of get_map_set get_map_set_same)
abbrev FF : Nat → Loc → Prop := fun _ _ => False
section
variable (P : Program) (D : Sc)
/-- Worker i: at its own work, or on the library's way out. -/
def WSitM (i : Nat) (wk : Bool) (E : WD) (r : Rk) (σ : List (Addr × Value)) (v : World) (g : Goroutine) (w : World) : Prop :=
  letI := D.pay
  (wk = true ∧ E.stage = 7 ∧ E.deaf = 0 ∧ GoW P D i r σ g v) ∨ (wk = false ∧ ∃ m, r = nat m ∧
    ((E.stage = 7 ∧ E.deaf = 0 ∧ Goes P false (RW D.ty D.Wg D.c 1 0 0) DC0 (AtR0 P D.ty D.Wg D.c 1 0 1 D.x) m g w) ∨ (E.stage ≠ 7 ∧ WSit P D.ty D.Wg D.c 1 FF FF 0 1 D.x E.stage m E.deaf g w)))
variable (K : Goroutine → World → Prop)
def AftA (r : Nat) (vs : World) : Goroutine → Prop := fun g' => @Go3 noPh P true (GoStop P D (D.n - (r + 1)) fun g v => @Go3 noPh P true (SpStop P D K r) g v) g' vs
def AftW : Goroutine → Prop := fun g' => ∀ v', Join D v' → K g' v'
structure AOk (A : Goroutine → World → Prop) : Prop where
  run : ∀ g w, A g w → g.status = .running
  round : ∀ g w, A g w → ∃ m, Goes P true (RL D.ty D.Wg) DC0 (LW1 P D.ty D.Wg (AftW D K) A) m g w
/-- The starter: tag, how many are started, one more for the measure, rank, deafness. -/
inductive CSitM : CTag → Nat → Nat → Rk → Nat → Goroutine → World → World → Prop
  | s6 {r : Nat} {k : Rk} {g : Goroutine} {v w : World} : r ≤ D.n → GoR P true (SpStop P D K r) k g v → CSitM (.sp r 6) (D.n - r) 0 k 0 g v w
  | s5 {r m : Nat} {g : Goroutine} {v w vs : World} : r < D.n → Ext vs v → Goes P true (RL D.ty D.Wg) DC0 (LKd P D.ty D.Wg (AftA P D K r vs)) m g w → CSitM (.sp (r + 1) 5) (D.n - (r + 1)) 0 (nat m) 0 g v w
  | s4 {r m : Nat} {g : Goroutine} {v w vs : World} : r < D.n → Ext vs v → Goes P true (RL D.ty D.Wg) DC0 (LA1 P D.ty D.Wg (AftA P D K r vs)) m g w → CSitM (.sp (r + 1) 4) (D.n - (r + 1)) 0 (nat m) 1 g v w
  | s3 {r m : Nat} {g : Goroutine} {v w vs : World} : r < D.n → Ext vs v → Goes P true (RL D.ty D.Wg) DC0 (LRd P D.ty D.Wg (AftA P D K r vs)) m g w → CSitM (.sp (r + 1) 3) (D.n - (r + 1)) 0 (nat m) 1 g v w
  | s2 {r m : Nat} {g : Goroutine} {v w vs : World} : r < D.n → Ext vs v → Goes P true (RL D.ty D.Wg) DC0 (LKe P (AftA P D K r vs)) m g w → CSitM (.sp (r + 1) 2) (D.n - (r + 1)) 0 (nat m) 1 g v w
  | s1 {r : Nat} {k : Rk} {g : Goroutine} {v w : World} : r < D.n → GoR P true (GoStop P D (D.n - (r + 1)) fun g v => @Go3 noPh P true (SpStop P D K r) g v) k g v → CSitM (.sp (r + 1) 1) (D.n - (r + 1)) 0 k 0 g v w
  | kd {m : Nat} {g : Goroutine} {v w : World} {A : Goroutine → World → Prop} : AOk P D K A → Goes P true (RL D.ty D.Wg) DC0 (LKdW P D.ty D.Wg A) m g w → CSitM .kd D.n 0 (nat m) 0 g v w
  | anch {m : Nat} {g : Goroutine} {v w : World} {A : Goroutine → World → Prop} : AOk P D K A → Goes P true (RL D.ty D.Wg) DC0 A m g w → CSitM .anch D.n 0 (nat m) 1 g v w
  | w1 {m : Nat} {g : Goroutine} {v w : World} {A : Goroutine → World → Prop} : AOk P D K A → Goes P true (RL D.ty D.Wg) DC0 (LW1 P D.ty D.Wg (AftW D K) A) m g w → CSitM .w1 D.n 0 (nat m) 1 g v w
  | w2 {vs m : Nat} {g : Goroutine} {v w : World} {A : Goroutine → World → Prop} : AOk P D K A → Goes P true (RL D.ty D.Wg) DC0 (LW2 P D.ty D.Wg (AftW D K) A vs) m g w → CSitM (.w2 vs) D.n 0 (nat m) 1 g v w
  | wr {m m' : Nat} {g : Goroutine} {v w : World} : Goes P true (RL D.ty D.Wg) DC0 (LWr P D.ty D.Wg (AftW D K) m') m g w → CSitM .w3 D.n 1 (nat m) 1 g v w
  | w3 {m : Nat} {g : Goroutine} {v w : World} : Goes P true (RL D.ty D.Wg) DC0 (LW3 P D.ty D.Wg (AftW D K)) m g w → CSitM .w3 D.n 0 (nat (m + 1)) 1 g v w
  | blk {m : Nat} {g : Goroutine} {v w : World} : (∀ w₁, RL D.ty D.Wg w w₁ → LW3 P D.ty D.Wg (AftW D K) g w₁) → CSitM .blk D.n 0 (nat m) 1 { g with status := .blocked } v w
  | w4 {m : Nat} {g : Goroutine} {v w : World} : Goes P true (RL D.ty D.Wg) DC0 (LW4 P D.ty D.Wg (AftW D K)) m g w → CSitM .w4 D.n 0 (nat m) 1 g v w
  | ke {m : Nat} {g : Goroutine} {v w : World} : Goes P true (RL D.ty D.Wg) DC0 (LKe2 P D.ty D.Wg (AftW D K)) m g w → CSitM .ke D.n 0 (nat m) 1 g v w
  | acq {m : Nat} {g : Goroutine} {v w : World} : Goes P true (RL D.ty D.Wg) DC0 (LAcq P D.Wg (AftW D K)) m g w → CSitM .acq D.n 0 (nat m) 0 g v w
end
section
variable {P : Program} {D : Sc} {K : Goroutine → World → Prop} {i : Nat} {wk : Bool} {E : WD} {r : Rk} {σ : List (Addr × Value)} {v v' : World} {g : Goroutine} {w w' : World} {tag : CTag} {j e d0 : Nat}
theorem WSitM.rely (h : WSitM P D i wk E r σ v g w) (hx : Ext v v') (hr : @RW D.pay D.ty D.Wg D.c 1 0 0 w w') : WSitM P D i wk E r σ v' g w' := by
  letI := D.pay
  exact h.imp (fun ⟨h1, h2, h3, h4⟩ => ⟨h1, h2, h3, h4.ext hx⟩) fun ⟨h1, m, h2, h3⟩ => ⟨h1, m, h2, h3.imp (fun ⟨h4, h5, h6⟩ => ⟨h4, h5, Goes.rely (fun _ _ _ a b => a.trans b) h6 hr⟩) fun ⟨h4, h5⟩ => ⟨h4, h5.rely hr⟩⟩
theorem WSitM.status (h : WSitM P D i wk E r σ v g w) : g.status = .running ∨ g.status = .finished := by
  letI := D.pay
  rcases h with ⟨_, _, _, h⟩ | ⟨_, m, _, ⟨_, _, h⟩ | ⟨_, h⟩⟩
  · rcases h.cases with h | h
    · exact .inl h.1
    · exact .inl h.1
  · exact .inl (Goes.running (fun _ _ x => x.1) w (Go.ConcN.RW.refl w) h)
  · exact h.status
theorem WSitM.running_of (h : WSitM P D i wk E r σ v g w) (hs : E.stage ≠ 1) : g.status = .running := by
  letI := D.pay
  rcases h with ⟨_, _, _, h⟩ | ⟨_, m, _, ⟨_, _, h⟩ | ⟨_, h⟩⟩
  · rcases h.cases with h | h
    · exact h.1
    · exact h.1
  · exact Goes.running (fun _ _ x => x.1) w (Go.ConcN.RW.refl w) h
  · exact h.running_of hs
theorem WSitM.woken (h : WSitM P D i wk E r σ v g w) (a a' : Goroutine) (u : World) : woken P a a' u g = g := by
  unfold Go.Conc.woken
  split
  · exact again_running _ h.status
  · rfl
theorem goL {S : Goroutine → World → Prop} {m : Nat} (h : Goes P true (RL D.ty D.Wg) DC0 S m g w) (hr : RL D.ty D.Wg w w') : Goes P true (RL D.ty D.Wg) DC0 S m g w' := Goes.rely (RL.trans D.ty D.Wg) h hr
theorem CSitM.rely (h : CSitM P D K tag j e r d0 g v w) (hx : Ext v v') (hr : RL D.ty D.Wg w w') : CSitM P D K tag j e r d0 g v' w' := by
  cases h with
  | s6 h1 h2 => exact .s6 h1 (h2.ext hx)
  | s5 h1 h2 h3 => exact .s5 h1 (h2.trans hx) (goL h3 hr)
  | s4 h1 h2 h3 => exact .s4 h1 (h2.trans hx) (goL h3 hr)
  | s3 h1 h2 h3 => exact .s3 h1 (h2.trans hx) (goL h3 hr)
  | s2 h1 h2 h3 => exact .s2 h1 (h2.trans hx) (goL h3 hr)
  | s1 h1 h2 => exact .s1 h1 (h2.ext hx)
  | kd h1 h2 => exact .kd h1 (goL h2 hr)
  | anch h1 h2 => exact .anch h1 (goL h2 hr)
  | w1 h1 h2 => exact .w1 h1 (goL h2 hr)
  | w2 h1 h2 => exact .w2 h1 (goL h2 hr)
  | wr h2 => exact .wr (goL h2 hr)
  | w3 h2 => exact .w3 (goL h2 hr)
  | blk h2 => exact .blk fun w₁ h₁ => h2 w₁ (RL.trans D.ty D.Wg _ _ _ hr h₁)
  | w4 h2 => exact .w4 (goL h2 hr)
  | ke h2 => exact .ke (goL h2 hr)
  | acq h2 => exact .acq (goL h2 hr)
theorem rl_refl (w : World) : RL D.ty D.Wg w w := id
theorem goRun {S : Goroutine → World → Prop} {m : Nat} (h : Goes P true (RL D.ty D.Wg) DC0 S m g w) (hS : ∀ g w, S g w → g.status = .running) : g.status = .running := Goes.running hS w (rl_refl w) h
theorem gorRun {S : Goroutine → World → Prop} {m : Bool} (h : GoR P m S r g v) (hS : ∀ g w, S g w → g.status = .running) : g.status = .running := by
  rcases h.cases with h | h
  · exact hS _ _ h
  · exact h.1
theorem spRun {r : Nat} : ∀ g w, SpStop P D K r g w → g.status = .running := by
  cases r with
  | zero => exact fun g w h => h.1
  | succ r => exact fun g w h => h.1
theorem CSitM.status (h : CSitM P D K tag j e r d0 g v w) : (g.status = .running ∧ tag ≠ .blk) ∨ (g.status = .blocked ∧ tag = .blk) := by
  cases h with
  | s6 h1 h2 => exact .inl ⟨gorRun h2 spRun, by simp⟩
  | s5 h1 h2 h3 => exact .inl ⟨goRun h3 fun _ _ x => x.1, by simp⟩
  | s4 h1 h2 h3 => exact .inl ⟨goRun h3 fun _ _ x => x.1, by simp⟩
  | s3 h1 h2 h3 => exact .inl ⟨goRun h3 fun _ _ x => x.1, by simp⟩
  | s2 h1 h2 h3 => exact .inl ⟨goRun h3 fun _ _ x => x.1, by simp⟩
  | s1 h1 h2 => exact .inl ⟨gorRun h2 fun _ _ x => x.1, by simp⟩
  | kd h1 h2 => exact .inl ⟨goRun h2 fun _ _ x => x.1, by simp⟩
  | anch h1 h2 => exact .inl ⟨goRun h2 h1.run, by simp⟩
  | w1 h1 h2 => exact .inl ⟨goRun h2 fun _ _ x => x.1, by simp⟩
  | w2 h1 h2 => exact .inl ⟨goRun h2 fun _ _ x => x.1, by simp⟩
  | wr h2 => exact .inl ⟨goRun h2 fun _ _ x => x.1, by simp⟩
  | w3 h2 => exact .inl ⟨goRun h2 fun _ _ x => x.1, by simp⟩
  | blk h2 => exact .inr ⟨rfl, rfl⟩
  | w4 h2 => exact .inl ⟨goRun h2 fun _ _ x => x.1, by simp⟩
  | ke h2 => exact .inl ⟨goRun h2 fun _ _ x => x.1, by simp⟩
  | acq h2 => exact .inl ⟨goRun h2 fun _ _ x => x.1, by simp⟩
/-- Under another's step. -/
theorem CSitM.wokenBy {a : Goroutine} (h : CSitM P D K tag j e r d0 a v w) (hx : Ext v v') (hr : RL D.ty D.Wg w w') (g g' : Goroutine) :
    ∃ tag' r', CSitM P D K tag' j e r' d0 (Go.Conc.woken P g g' w' a) v' w' ∧ (tag' = tag ∨ (tag = .blk ∧ tag' = .w3)) ∧ (mayWake P g = true → g'.status = .running → tag' ≠ .blk) := by
  have h' := h.rely hx hr
  unfold Go.Conc.woken
  split
  · rcases h'.status with ⟨hs, hne⟩ | ⟨_, rfl⟩
    · exact ⟨tag, r, by rw [again_running _ (.inl hs)]; exact h', .inl rfl, fun _ _ => hne⟩
    · cases h' with
      | blk hb =>
        have h3 := hb w' (rl_refl w')
        exact ⟨.w3, nat (0 + 1), by rw [Go.ConcR.again_blocked h3.1 h3.2.1]; exact .w3 (Goes.stop hb), .inr ⟨rfl, rfl⟩, fun _ _ => by simp⟩
  · rename_i hc
    exact ⟨tag, r, h', .inl rfl, fun h1 h2 => absurd (by simp [h1, h2]) hc⟩
end
structure St where
  j : Nat
  V : Nat → World
  E : Nat → WD
  wk : Nat → Bool
  σ : Nat → List (Addr × Value)
  F : Nat → Rk
  rel : Nat → Option Nat
  st : Int
  sm : Int
section
variable (P : Program) (D : Sc) (G0 : Nat) (Sh : Nat → Prop) (wb : World) (s : St)
def RdN (j : Nat) (V : Nat → World) (wk : Nat → Bool) (y b : Nat) : Prop := (y = 0 ∧ Rdb (V 0) b) ∨ ∃ i, i < j ∧ y = G0 + i ∧ wk i = true ∧ Rdb (V (i + 1)) b
def WrN (j : Nat) (V : Nat → World) (wk : Nat → Bool) (y : Nat) (ad : Addr) : Prop := (y = 0 ∧ (Liv (V 0) ad.block ∨ ∃ i, j ≤ i ∧ D.own i ad)) ∨ ∃ i, i < j ∧ y = G0 + i ∧ wk i = true ∧ (Liv (V (i + 1)) ad.block ∨ D.own i ad)
def ActN (j : Nat) (y : Nat) : Prop := y = 0 ∨ ∃ i, i < j ∧ y = G0 + i
def Bad (b : Nat) : Prop := b = D.Wg ∨ D.arr b = true ∨ Sh b
def ShW (b : Nat) : Prop := b = D.Wg ∨ Sh b
structure Com (gs : Array Goroutine) (w : World) (t : Trace) (d0 : Nat) : Prop where
  g0 : 0 < G0
  size : gs.size = G0 + s.j
  old : ∀ y g, 0 < y → y < G0 → gs[y]? = some g → ∃ q, s.F y = nat q ∧ QuitsD P q (Deaf t y) g
  wks : ∀ i, i < s.j → ∃ g, gs[G0 + i]? = some g ∧ WSitM P D i (s.wk i) (s.E i) (s.F (G0 + i)) (s.σ i) (s.V (i + 1)) g w
  vi : VI (Bad D Sh) D.vb.heap.size s.j s.V w
  wi : WI D wb s.j s.σ s.st s.sm w
  ti : TI (ShW D Sh) (RdN G0 s.j s.V s.wk) (WrN D G0 s.j s.V s.wk) (ActN G0 s.j) s.rel (G0 - 1) w.heap.size (G0 + s.j) t
  norel : ∀ a, NoRelease a t
  deaf0 : Deaf t 0 = d0
  deafW : ∀ i, i < s.j → Deaf t (G0 + i) = (s.E i).deaf
  rel : ∀ i, i < s.j → (s.E i).stage ≤ 6 → ∃ r, s.rel (G0 + i) = some r ∧ RelBy (stA D.Wg) t (G0 + i) r
  reln : ∀ i, (i < s.j → 7 ≤ (s.E i).stage) → s.rel (G0 + i) = none
  fin : ∀ i, i < s.j → s.wk i = false → D.fin i (s.σ i) (s.V (i + 1))
  shb : ∀ b, Sh b → b < D.vb.heap.size
  shA : ∀ b, Sh b → D.arr b = false
end
section
variable {P : Program} {D : Sc} {G0 : Nat} {Sh : Nat → Prop} {wb : World} {s : St} {gs : Array Goroutine} {w w' : World} {t : Trace} {d0 : Nat}
theorem Com.badlt (h : Com P D G0 Sh wb s gs w t d0) (O : PhOk D) : ∀ b, Bad D Sh b → b < w.heap.size := by
  have h1 := h.wi.size
  rintro b (rfl | hb | hb)
  · have := h.wi.wgB; omega
  · have := arr_lt O hb; omega
  · have := h.shb b hb; omega
theorem Com.fit (h : Com P D G0 Sh wb s gs w t d0) (O : PhOk D) : Fit (ShW D Sh) (RdN G0 s.j s.V s.wk) (WrN D G0 s.j s.V s.wk) w.heap.size := by
  have g0 := h.g0
  have vs : ∀ y, y ≤ s.j → (s.V y).heap.size = w.heap.size := fun y hy => (h.vi.view y hy).size
  have shb : ∀ b, ShW D Sh b → Bad D Sh b := fun b hb => hb.imp id .inr
  have ownB : ∀ i ad, D.own i ad → Bad D Sh ad.block := fun i ad ho => .inr (.inl (O.own i ad ho).1)
  refine ⟨fun y ad hw z hne => ⟨fun hr => ?_, fun hw2 => ?_⟩, fun y b hr => ?_, fun y ad hw => ?_, fun b hb => h.badlt O b (shb b hb), fun b hb y hr => ?_, fun ad hb y hw => ?_⟩
  · rcases hw with ⟨rfl, hl | ⟨i, hi, ho⟩⟩ | ⟨i, hi, rfl, hwk, hl | ho⟩ <;> rcases hr with ⟨rfl, hr⟩ | ⟨k, hk, rfl, hwk2, hr⟩
    · exact hne rfl
    · exact h.vi.ex 0 (k + 1) (by omega) (by omega) (by omega) _ hl hr
    · exact h.vi.bad 0 (by omega) _ (ownB _ _ ho) hr
    · exact h.vi.bad (k + 1) (by omega) _ (ownB _ _ ho) hr
    · exact h.vi.ex (i + 1) 0 (by omega) (by omega) (by omega) _ hl hr
    · exact h.vi.ex (i + 1) (k + 1) (by omega) (by omega) (by omega) _ hl hr
    · exact h.vi.bad 0 (by omega) _ (ownB _ _ ho) hr
    · exact h.vi.bad (k + 1) (by omega) _ (ownB _ _ ho) hr
  · rcases hw with ⟨rfl, hl | ⟨i, hi, ho⟩⟩ | ⟨i, hi, rfl, hwk, hl | ho⟩ <;> rcases hw2 with ⟨rfl, hl2 | ⟨k, hk, ho2⟩⟩ | ⟨k, hk, rfl, hwk2, hl2 | ho2⟩
    · exact hne rfl
    · exact hne rfl
    · exact h.vi.ex 0 (k + 1) (by omega) (by omega) (by omega) _ hl hl2.rdb
    · exact h.vi.bad 0 (by omega) _ (ownB _ _ ho2) hl.rdb
    · exact hne rfl
    · exact hne rfl
    · exact h.vi.bad (k + 1) (by omega) _ (ownB _ _ ho) hl2.rdb
    · have := O.own1 i k ad ho ho2; omega
    · exact h.vi.ex (i + 1) 0 (by omega) (by omega) (by omega) _ hl hl2.rdb
    · exact h.vi.bad (i + 1) (by omega) _ (ownB _ _ ho2) hl.rdb
    · exact h.vi.ex (i + 1) (k + 1) (by omega) (by omega) (by omega) _ hl hl2.rdb
    · exact h.vi.bad (i + 1) (by omega) _ (ownB _ _ ho2) hl.rdb
    · exact h.vi.bad 0 (by omega) _ (ownB _ _ ho) hl2.rdb
    · have := O.own1 i k ad ho ho2; omega
    · exact h.vi.bad (k + 1) (by omega) _ (ownB _ _ ho) hl2.rdb
    · have := O.own1 i k ad ho ho2; omega
  · rcases hr with ⟨rfl, hr⟩ | ⟨k, hk, rfl, _, hr⟩
    · rw [← vs 0 (by omega)]; exact rdb_lt hr
    · rw [← vs (k + 1) (by omega)]; exact rdb_lt hr
  · rcases hw with ⟨rfl, hl | ⟨i, hi, ho⟩⟩ | ⟨i, hi, rfl, hwk, hl | ho⟩
    · rw [← vs 0 (by omega)]; exact liv_lt hl
    · exact h.badlt O _ (ownB _ _ ho)
    · rw [← vs (i + 1) (by omega)]; exact liv_lt hl
    · exact h.badlt O _ (ownB _ _ ho)
  · rcases hr with ⟨rfl, hr⟩ | ⟨k, hk, rfl, _, hr⟩
    · exact h.vi.bad 0 (by omega) b (shb b hb) hr
    · exact h.vi.bad (k + 1) (by omega) b (shb b hb) hr
  · have nar : ∀ i, D.own i ad → False := fun i ho => by
      obtain ⟨h1, _⟩ := O.own i ad ho
      rcases hb with e | e
      · exact (O.arr _ h1).1 e
      · rw [h.shA _ e] at h1; cases h1
    rcases hw with ⟨rfl, hl | ⟨i, hi, ho⟩⟩ | ⟨i, hi, rfl, hwk, hl | ho⟩
    · exact h.vi.bad 0 (by omega) _ (shb _ hb) hl.rdb
    · exact nar i ho
    · exact h.vi.bad (i + 1) (by omega) _ (shb _ hb) hl.rdb
    · exact nar i ho
end
end Go.Proofs.Ytgeflnjjppgooaa.Y

namespace Go.Proofs.Ytgeflnjjppgooaa.Y
open Go Go.Conc Go.RowKit Go.Proofs.Ytgeflnjjppgooaa Go.Proofs.Ytgeflnjjppgooaa.Q
open Go.ConcR (KK wgBlock WgAt stA smA rd wr mk Payload DC0 g_of_ofEvents)
open Go.ConcN (WgLive PayAt Has RW DWs AtR0 WSit WD upd upd_same upd_ne CTag RelBy norel_of get_map_set get_map_set_same Deaf_absent)
section
variable {P : Program} {D : Sc} {G0 : Nat} {Sh : Nat → Prop} {wb : World} {s : St} {gs : Array Goroutine} {w w' : World} {t : Trace} {d0 : Nat} {fn : FuncId} {pos : String} {es : Array Event}
theorem ops_g {g : Nat} : ∀ op ∈ MemOp.ofEvents g fn pos es, op.g = g := g_of_ofEvents
theorem norelA {g : Nat} {ad : Addr} (h : ∀ e ∈ es, ∀ ad, e.loc ≠ .mark (.release ad)) : ∀ op ∈ MemOp.ofEvents g fn pos es, op.act ≠ .mark (.release ad) := by
  intro op hop e
  obtain ⟨x, hx, rfl⟩ := Go.Conc.mem_ofEvents hop
  exact h x hx ad (Go.ConcR.loc_of_ofEvent e)
theorem Com.above (h : Com P D G0 Sh wb s gs w t d0) {y : Nat} (hy : G0 + s.j ≤ y) : Deaf t y = 0 := Deaf_absent fun i op hi e => by
  have := h.ti.gs op (Array.mem_of_getElem? hi)
  omega
/-- What the views bear stands where the world turns aside. -/
theorem rd_up {j : Nat} {V : Nat → World} {wk : Nat → Bool} {u : World} {y b : Nat} : RdN G0 j (fun y => up (V y) u) wk y b ↔ RdN G0 j V wk y b := by simp only [RdN, rdb_up]
theorem wr_up {j : Nat} {V : Nat → World} {wk : Nat → Bool} {u : World} {y : Nat} {ad : Addr} : WrN D G0 j (fun y => up (V y) u) wk y ad ↔ WrN D G0 j V wk y ad := by simp only [WrN, liv_up]
/-- A draw. -/
theorem Com.at (h : Com P D G0 Sh wb s gs w t d0) (O : PhOk D) (d : Nat) : Com P D G0 Sh wb { s with V := fun y => up (s.V y) (w.at d) } gs (w.at d) t d0 := by
  have hWI : WI D wb s.j s.σ s.st s.sm (w.at d) := h.wi.same O h.wi.wg (fun _ _ => rfl) (fun _ _ _ _ => rfl) (Nat.le_refl _) rfl rfl rfl
  refine ⟨h.g0, h.size, h.old, fun i hi => ?_, h.vi.at d, hWI, h.ti.weak (fun y b => rd_up.1) (fun y ad => wr_up.1) (fun _ => id), h.norel, h.deaf0, h.deafW, h.rel, h.reln, fun i hi hw => O.finX _ _ _ _ (h.fin i hi hw) (up_ext _ _), h.shb, h.shA⟩
  obtain ⟨g, hg, hs⟩ := h.wks i hi
  exact ⟨g, hg, hs.rely (up_ext _ _) (h.wi.rw hWI)⟩
/-- A leaver slips. -/
theorem Com.slip (h : Com P D G0 Sh wb s gs w t d0) {y q : Nat} {g g' : Goroutine} (hy : 0 < y) (hyG : y < G0) (hg : gs[y]? = some g) (hm : ∀ e ∈ es, Event.mute e = true) (hq : QuitsD P q (deafBehind (Deaf t y) es) g') :
    Com P D G0 Sh wb { s with F := Go.ConcN.upd s.F y (nat q) } ((gs.map (woken P g g' w)).setIfInBounds y g') w (t ++ MemOp.ofEvents y fn pos es) d0 := by
  have hsz : y < gs.size := (Array.getElem?_eq_some_iff.1 hg).1
  have hmu : ∀ op ∈ MemOp.ofEvents y fn pos es, op.act.touch? = none := fun op hop => by obtain ⟨e, he, rfl⟩ := Go.Conc.mem_ofEvents hop; exact touch_mute (hm e he)
  refine ⟨h.g0, by simp [h.size], fun k x hk hkG hx => ?_, fun i hi => ?_, h.vi, h.wi, h.ti.mute (Nat.le_refl _) (fun op hop => by rw [ops_g op hop]; omega) hmu (fun op hop => by obtain ⟨e, he, rfl⟩ := Go.Conc.mem_ofEvents hop; exact low_mute (hm e he) _) ops_g,
    fun ad => (h.norel ad).app fun op hop => ?_, ?_, fun i hi => ?_, fun i hi hs => ?_, h.reln, h.fin, h.shb, h.shA⟩
  · by_cases e : k = y
    · subst e
      rw [get_map_set_same _ _ _ hsz] at hx
      cases hx
      exact ⟨q, upd_same _ _ _, by rw [Deaf_own]; exact hq⟩
    · rw [get_map_set _ _ _ _ (Ne.symm e)] at hx
      obtain ⟨z, hz, rfl⟩ := Option.map_eq_some_iff.1 hx
      obtain ⟨q', h1, h2⟩ := h.old k z hk hkG hz
      refine ⟨q', (upd_ne s.F _ e).trans h1, ?_⟩
      rw [woken_quitsD h2, Deaf_other t (Ne.symm e) _ ops_g]
      exact h2
  · obtain ⟨z, hz, hs⟩ := h.wks i hi
    refine ⟨z, by rw [get_map_set _ _ _ _ (by omega), hz, Option.map_some, hs.woken], ?_⟩
    have e2 : G0 + i ≠ y := by omega
    simp only [upd_ne s.F _ e2]
    exact hs
  · obtain ⟨e, he, rfl⟩ := Go.Conc.mem_ofEvents hop
    intro h1
    have h2 := hm e he
    have h3 := Go.ConcR.loc_of_ofEvent h1
    obtain ⟨l, ww, sy⟩ := e
    simp only at h3
    subst h3
    simp [Event.mute] at h2
  · rw [Deaf_other t (by omega) _ ops_g]; exact h.deaf0
  · rw [Deaf_other t (by omega) _ ops_g]; exact h.deafW i hi
  · obtain ⟨r, h1, h2⟩ := h.rel i hi hs
    exact ⟨r, h1, h2.appOther ops_g (by omega)⟩
/-- A step of the starter's. -/
theorem Com.caller (h : Com P D G0 Sh wb s gs w t d0) (O : PhOk D) {a a' : Goroutine} {V' : Nat → World} {st' sm' : Int} (hVI : VI (Bad D Sh) D.vb.heap.size s.j V' w') (hWI : WI D wb s.j s.σ st' sm' w')
    (hx : ∀ i, i < s.j → Ext (s.V (i + 1)) (V' (i + 1)))
    (hti : TI (ShW D Sh) (RdN G0 s.j V' s.wk) (WrN D G0 s.j V' s.wk) (ActN G0 s.j) s.rel (G0 - 1) w'.heap.size (G0 + s.j) (t ++ MemOp.ofEvents 0 fn pos es))
    (hnr : ∀ e ∈ es, ∀ ad, e.loc ≠ .mark (.release ad)) : Com P D G0 Sh wb { s with V := V', st := st', sm := sm' } ((gs.map (woken P a a' w')).setIfInBounds 0 a') w' (t ++ MemOp.ofEvents 0 fn pos es) (deafBehind d0 es) := by
  have g0 := h.g0
  refine ⟨g0, by simp [h.size], fun k x hk hkG hx => ?_, fun i hi => ?_, hVI, hWI, hti, fun ad => (h.norel ad).app (norelA hnr), by rw [Deaf_own, h.deaf0], fun i hi => by rw [Deaf_other t (by omega) _ ops_g]; exact h.deafW i hi, fun i hi hs => ?_, h.reln,
    fun i hi hw => O.finX _ _ _ _ (h.fin i hi hw) (hx i hi), h.shb, h.shA⟩
  · rw [get_map_set _ _ _ _ (by omega)] at hx
    obtain ⟨z, hz, rfl⟩ := Option.map_eq_some_iff.1 hx
    obtain ⟨q', h1, h2⟩ := h.old k z hk hkG hz
    refine ⟨q', h1, ?_⟩
    rw [woken_quitsD h2, Deaf_other t (by omega) _ ops_g]
    exact h2
  · obtain ⟨z, hz, hs⟩ := h.wks i hi
    exact ⟨z, by rw [get_map_set _ _ _ _ (by omega), hz, Option.map_some, hs.woken], hs.rely (hx i hi) (h.wi.rw hWI)⟩
  · obtain ⟨r, h1, h2⟩ := h.rel i hi hs
    exact ⟨r, h1, h2.appOther ops_g (by omega)⟩
/-- A step of worker's i. -/
theorem Com.worker (h : Com P D G0 Sh wb s gs w t d0) (O : PhOk D) {i : Nat} (hi : i < s.j) {g g' : Goroutine} {V' : Nat → World} {E' : WD} {wk' : Bool} {σ' : List (Addr × Value)} {r' : Rk} {rel' : Nat → Option Nat} {st' sm' : Int}
    (hVI : VI (Bad D Sh) D.vb.heap.size s.j V' w') (hWI : WI D wb s.j (Go.ConcN.upd s.σ i σ') st' sm' w')
    (hx : ∀ k, k < s.j → k ≠ i → Ext (s.V (k + 1)) (V' (k + 1)))
    (hti : TI (ShW D Sh) (RdN G0 s.j V' (Go.ConcN.upd s.wk i wk')) (WrN D G0 s.j V' (Go.ConcN.upd s.wk i wk')) (ActN G0 s.j) rel' (G0 - 1) w'.heap.size (G0 + s.j) (t ++ MemOp.ofEvents (G0 + i) fn pos es))
    (hsit : WSitM P D i wk' E' r' σ' (V' (i + 1)) g' w') (hnr : ∀ e ∈ es, ∀ ad, e.loc ≠ .mark (.release ad)) (hd : deafBehind (s.E i).deaf es = E'.deaf)
    (hrel : E'.stage ≤ 6 → ∃ r, rel' (G0 + i) = some r ∧ RelBy (stA D.Wg) (t ++ MemOp.ofEvents (G0 + i) fn pos es) (G0 + i) r) (hreln : 7 ≤ E'.stage → rel' (G0 + i) = none) (hro : ∀ y, y ≠ G0 + i → rel' y = s.rel y)
    (hfin : wk' = false → D.fin i σ' (V' (i + 1))) :
    Com P D G0 Sh wb { s with V := V', E := Go.ConcN.upd s.E i E', wk := Go.ConcN.upd s.wk i wk', σ := Go.ConcN.upd s.σ i σ', F := Go.ConcN.upd s.F (G0 + i) r', rel := rel', st := st', sm := sm' } ((gs.map (woken P g g' w')).setIfInBounds (G0 + i) g') w' (t ++ MemOp.ofEvents (G0 + i) fn pos es) d0 := by
  have g0 := h.g0
  refine ⟨g0, by simp [h.size], fun k x hk hkG hx => ?_, fun k hk => ?_, hVI, hWI, hti, fun ad => (h.norel ad).app (norelA hnr), by rw [Deaf_other t (by omega) _ ops_g, h.deaf0], fun k hk => ?_, fun k hk hs => ?_, fun k hk => ?_, fun k hk hw => ?_, h.shb, h.shA⟩
  · rw [get_map_set _ _ _ _ (by omega)] at hx
    obtain ⟨z, hz, rfl⟩ := Option.map_eq_some_iff.1 hx
    obtain ⟨q', h1, h2⟩ := h.old k z hk hkG hz
    refine ⟨q', by show Go.ConcN.upd s.F _ _ _ = _; rw [upd_ne s.F _ (by omega)]; exact h1, ?_⟩
    rw [woken_quitsD h2, Deaf_other t (by omega) _ ops_g]
    exact h2
  · by_cases e : k = i
    · subst e
      refine ⟨g', get_map_set_same _ _ _ (by rw [h.size]; simp only at hk; omega), ?_⟩
      simp only [upd_same]
      exact hsit
    · obtain ⟨z, hz, hs⟩ := h.wks k hk
      refine ⟨z, by rw [get_map_set _ _ _ _ (by omega), hz, Option.map_some, hs.woken], ?_⟩
      have e2 : G0 + k ≠ G0 + i := by omega
      simp only [upd_ne s.wk _ e, upd_ne s.E _ e, upd_ne s.σ _ e, upd_ne s.F _ e2]
      exact hs.rely (hx k hk e) (h.wi.rw hWI)
  · by_cases e : k = i
    · subst e
      simp only [upd_same]
      rw [Deaf_own, h.deafW k hk]; exact hd
    · simp only [upd_ne s.E _ e]
      rw [Deaf_other t (by omega) _ ops_g]; exact h.deafW k hk
  · by_cases e : k = i
    · subst e
      simp only [upd_same] at hs
      exact hrel hs
    · simp only [upd_ne s.E _ e] at hs
      obtain ⟨r, h1, h2⟩ := h.rel k hk hs
      exact ⟨r, by show rel' _ = _; rw [hro _ (by omega)]; exact h1, h2.appOther ops_g (by omega)⟩
  · by_cases e : k = i
    · subst e
      simp only [upd_same] at hk
      exact hreln (hk hi)
    · simp only [upd_ne s.E _ e] at hk
      show rel' _ = _
      rw [hro _ (by omega)]; exact h.reln k hk
  · by_cases e : k = i
    · subst e
      simp only [upd_same] at hw ⊢
      exact hfin hw
    · simp only [upd_ne s.wk _ e] at hw
      simp only [upd_ne s.σ _ e]
      exact O.finX _ _ _ _ (h.fin k hk hw) (hx k hk e)
end
end Go.Proofs.Ytgeflnjjppgooaa.Y

namespace Go.Proofs.Ytgeflnjjppgooaa.Y
open Go Go.Conc Go.RowKit Go.Proofs.Ytgeflnjjppgooaa Go.Proofs.Ytgeflnjjppgooaa.Q
open Go.ConcR (KK wgBlock WgAt stA smA rd wr mk Payload DC0 g_of_ofEvents)
open Go.ConcN (WgLive PayAt Has RW DWs AtR0 WSit WD upd upd_same upd_ne CTag RelBy norel_of get_map_set get_map_set_same Deaf_absent)
def gn (G0 : Nat) : Nat → Nat
  | 0 => 0
  | i + 1 => G0 + i
section
variable {P : Program} {D : Sc} {G0 : Nat} {Sh : Nat → Prop} {wb : World} {s : St} {gs : Array Goroutine} {w w' : World} {t : Trace} {d0 : Nat} {fn : FuncId} {pos : String} {es : Array Event}
/-- Whoever is at its own work has said no release. -/
theorem Com.atWork (h : Com P D G0 Sh wb s gs w t d0) {i : Nat} (hi : i < s.j) (hw : s.wk i = true) : (s.E i).stage = 7 ∧ (s.E i).deaf = 0 ∧ s.rel (G0 + i) = none := by
  obtain ⟨g, hg, hs⟩ := h.wks i hi
  rcases hs with ⟨_, h1, h2, _⟩ | ⟨h1, _⟩
  · exact ⟨h1, h2, h.reln i fun _ => by omega⟩
  · rw [hw] at h1; cases h1
theorem evok_op {v : World} {B : Nat} {e : Event} (he : EvOk v B e) {b : Touch} (hb : (MemAct.ofEvent e).touch? = some b) :
    (∃ r, b.loc = .obj r ∧ b.write = false) ∨ ∃ ad, b.loc = .cell ad ∧ (v.heap.size ≤ ad.block ∨ (if b.write = true then Liv v ad.block else Rdb v ad.block)) := by
  obtain ⟨loc, wr, sy⟩ := e
  unfold EvOk at he
  cases loc with
  | cell a =>
    simp only [MemAct.ofEvent, MemAct.touch?, Option.some.injEq] at hb
    subst hb
    exact .inr ⟨a, rfl, he.2⟩
  | obj r =>
    simp only at he
    obtain ⟨rfl, _⟩ := he
    simp only [MemAct.ofEvent, MemAct.touch?, Option.some.injEq] at hb
    subst hb
    exact .inl ⟨r, rfl, rfl⟩
  | mark m =>
    simp only at he
    simp only [MemAct.ofEvent] at hb
    rcases he with rfl | ⟨f, rfl⟩ <;> cases hb
  | _ => exact he.elim
theorem evok_low {v : World} {B : Nat} {e : Event} (he : EvOk v B e) : (MemAct.ofEvent e).low B := by
  obtain ⟨loc, wr, sy⟩ := e
  unfold EvOk at he
  cases loc with
  | cell a => exact he.1
  | obj r =>
    simp only at he
    obtain ⟨rfl, h, _⟩ := he
    exact h
  | mark m =>
    simp only at he
    rcases he with rfl | ⟨f, rfl⟩ <;> trivial
  | _ => exact he.elim
theorem evok_mark {v : World} {B : Nat} {e : Event} (he : EvOk v B e) : e.loc ≠ .mark .disable ∧ e.loc ≠ .mark .enable ∧ ∀ ad, e.loc ≠ .mark (.release ad) := by
  obtain ⟨loc, wr, sy⟩ := e
  unfold EvOk at he
  cases loc with
  | mark m =>
    simp only at he
    rcases he with rfl | ⟨f, rfl⟩ <;> simp
  | cell a => simp
  | obj r => simp
  | _ => exact he.elim
/-- A step of x's in its own view. -/
theorem Com.tiV (h : Com P D G0 Sh wb s gs w t d0) (O : PhOk D) {x : Nat} (hx : x ≤ s.j) (hw : ∀ i, x = i + 1 → s.wk i = true) {v' : World} (hc : Chg (s.V x) v' w w') (he : ∀ e ∈ es, EvOk (s.V x) v'.heap.size e) :
    TI (ShW D Sh) (RdN G0 s.j (fun y => if y = x then v' else up (s.V y) w') s.wk) (WrN D G0 s.j (fun y => if y = x then v' else up (s.V y) w') s.wk) (ActN G0 s.j) s.rel (G0 - 1) w'.heap.size (G0 + s.j) (t ++ MemOp.ofEvents (gn G0 x) fn pos es) := by
  have g0 := h.g0
  have hsz := (h.vi.view x hx).size
  have hsz' := hc.view.size
  have rdx : ∀ b, Rdb (s.V x) b → RdN G0 s.j s.V s.wk (gn G0 x) b := fun b hb => by
    cases x with
    | zero => exact .inl ⟨rfl, hb⟩
    | succ i => exact .inr ⟨i, by omega, rfl, hw i rfl, hb⟩
  have wrx : ∀ ad : Addr, Liv (s.V x) ad.block → WrN D G0 s.j s.V s.wk (gn G0 x) ad := fun b hb => by
    cases x with
    | zero => exact .inl ⟨rfl, .inl hb⟩
    | succ i => exact .inr ⟨i, by omega, rfl, hw i rfl, .inl hb⟩
  refine h.ti.step (h.fit O) (x := gn G0 x) ?_ ?_ ?_ ops_g (fun op hop b hb => ?_) (fun op hop => ?_) (fun i op b _ _ _ => ?_) (fun y b hr => ?_) (fun y ad hr => ?_)
  · cases x with
    | zero => exact .inl rfl
    | succ i => exact .inr ⟨i, by omega, rfl⟩
  · cases x with
    | zero => show 0 < _; omega
    | succ i => show G0 + i < _; omega
  · rw [← hsz, ← hsz']; exact hc.grow
  · obtain ⟨e, hee, rfl⟩ := Go.Conc.mem_ofEvents hop
    rcases evok_op (he e hee) hb with h1 | ⟨ad, h1, h2⟩
    · exact .inl h1
    · refine .inr ⟨ad, h1, ?_⟩
      rcases h2 with h2 | h2
      · exact .inr (.inl (by omega))
      · split at h2
        · exact .inr (.inr (.inl (wrx ad h2)))
        · rename_i hnw
          exact .inr (.inr (.inr ⟨rdx _ h2, by simpa using hnw⟩))
  · obtain ⟨e, hee, rfl⟩ := Go.Conc.mem_ofEvents hop
    rw [← hsz']
    exact evok_low (he e hee)
  · cases x with
    | zero => exact .inl rfl
    | succ i =>
      refine .inr (.inl ⟨?_, (h.atWork (i := i) (by omega) (hw i rfl)).2.2⟩)
      show G0 - 1 < G0 + i; omega
  · have key : ∀ y0, y0 ≤ s.j → Rdb ((fun y => if y = x then v' else up (s.V y) w') y0) b → Rdb (s.V y0) b ∨ (y0 = x ∧ w.heap.size ≤ b) := fun y0 hy0 hr => by
      by_cases e : y0 = x
      · subst e
        simp only [if_true] at hr
        rcases Nat.lt_or_ge b w.heap.size with hlt | hge
        · exact .inl (hc.rdb (by omega) hr)
        · exact .inr ⟨rfl, hge⟩
      · simp only at hr
        rw [if_neg e] at hr
        exact .inl (rdb_up.1 hr)
    rcases hr with ⟨rfl, hr⟩ | ⟨i, hi, rfl, hwk, hr⟩
    · rcases key 0 (by omega) hr with h1 | ⟨rfl, h1⟩
      · exact .inl (.inl ⟨rfl, h1⟩)
      · exact .inr ⟨rfl, h1⟩
    · rcases key (i + 1) (by omega) hr with h1 | ⟨rfl, h1⟩
      · exact .inl (.inr ⟨i, hi, rfl, hwk, h1⟩)
      · exact .inr ⟨rfl, h1⟩
  · have key : ∀ y0, y0 ≤ s.j → Liv ((fun y => if y = x then v' else up (s.V y) w') y0) ad.block → Liv (s.V y0) ad.block ∨ (y0 = x ∧ w.heap.size ≤ ad.block) := fun y0 hy0 hr => by
      by_cases e : y0 = x
      · subst e
        simp only [if_true] at hr
        rcases Nat.lt_or_ge ad.block w.heap.size with hlt | hge
        · exact .inl (hc.liv (by omega) hr)
        · exact .inr ⟨rfl, hge⟩
      · simp only at hr
        rw [if_neg e] at hr
        exact .inl (liv_up.1 hr)
    rcases hr with ⟨rfl, hr | hr⟩ | ⟨i, hi, rfl, hwk, hr | hr⟩
    · rcases key 0 (by omega) hr with h1 | ⟨rfl, h1⟩
      · exact .inl (.inl ⟨rfl, .inl h1⟩)
      · exact .inr ⟨rfl, h1⟩
    · exact .inl (.inl ⟨rfl, .inr hr⟩)
    · rcases key (i + 1) (by omega) hr with h1 | ⟨rfl, h1⟩
      · exact .inl (.inr ⟨i, hi, rfl, hwk, .inl h1⟩)
      · exact .inr ⟨rfl, h1⟩
    · exact .inl (.inr ⟨i, hi, rfl, hwk, .inr hr⟩)
/-- What the library's bookkeeping lists: no touch; or the group's cells, not plainly. -/
def EvS (D : Sc) (y : Nat) (e : Event) : Prop :=
  ((MemAct.ofEvent e).low (D.Wg + 1)) ∧ (∀ ad, e.loc ≠ .mark (.release ad)) ∧ ∀ b, (MemAct.ofEvent e).touch? = some b → (∃ ad, b.loc = .cell ad ∧ ad.block = D.Wg) ∧ b.kind ≠ .plain ∧ (b.kind = .said → y = 0)
theorem evS_mk {y : Nat} {m : Mark} (h : ∀ ad, m ≠ .release ad) (hl : (MemAct.mark m).low (D.Wg + 1)) (hn : (MemAct.mark m).touch? = none) : EvS D y (mk m) := by
  refine ⟨hl, fun ad e => h ad (Loc.mark.inj e), fun b hb => ?_⟩
  rw [show MemAct.ofEvent (mk m) = .mark m from rfl, hn] at hb; cases hb
theorem evS_at {y : Nat} (a : Addr) (wr : Bool) (h : a.block = D.Wg) : EvS D y ⟨.cell a, wr, true⟩ := by
  refine ⟨by show a.block < _; omega, by simp, fun b hb => ?_⟩
  rw [show MemAct.ofEvent ⟨.cell a, wr, true⟩ = .access ⟨.cell a, wr, true⟩ by cases wr <;> rfl] at hb
  simp only [MemAct.touch?, Option.some.injEq] at hb
  subst hb
  exact ⟨⟨a, rfl, h⟩, by simp, by simp⟩
theorem evS_said {y : Nat} (a : Addr) (h : a.block = D.Wg) (hy : y = 0) (m : Mark) (hm : m = .read a ∨ m = .write a) : EvS D y (mk m) := by
  rcases hm with rfl | rfl <;> refine ⟨by show a.block < _; omega, by simp [mk], fun b hb => ?_⟩ <;> simp only [mk, MemAct.ofEvent, MemAct.touch?, Option.some.injEq] at hb <;> subst hb <;> exact ⟨⟨a, rfl, h⟩, by simp, fun _ => hy⟩
theorem evS_sem {y : Nat} : ∀ e ∈ semEvents (smA D.Wg), EvS D y e := by
  intro e he
  simp [semEvents] at he
  rcases he with rfl | rfl | rfl | rfl
  · exact evS_mk (m := .disable) (by simp) trivial rfl
  · exact evS_at _ _ rfl
  · exact evS_at _ _ rfl
  · exact evS_mk (m := .enable) (by simp) trivial rfl
/-- Not heard: made while deaf. -/
theorem not_heard {g : Nat} {d : Nat} (hd : Deaf t g = d) (h : ∀ jx e, es[jx]? = some e → (MemAct.ofEvent e).touch? = none ∨ 0 < deafBehind d (es.extract 0 jx)) {i : Nat} {op : MemOp} {b : Touch} (hi : t.size ≤ i) (ho : (t ++ MemOp.ofEvents g fn pos es)[i]? = some op) (hb : op.act.touch? = some b) :
    ¬ (t ++ MemOp.ofEvents g fn pos es).heard i := by
  have hj : (MemOp.ofEvents g fn pos es)[i - t.size]? = some op := by
    rw [Array.getElem?_append] at ho
    simpa [Nat.not_lt.2 hi] using ho
  rw [ofEvents_eq, Array.getElem?_map] at hj
  obtain ⟨e, he, rfl⟩ := Option.map_eq_some_iff.1 hj
  have hjs : i - t.size ≤ es.size := by
    rcases Nat.lt_or_ge (i - t.size) es.size with h' | h'
    · omega
    · rw [Array.getElem?_eq_none h'] at he; cases he
  rintro ⟨g', hg', hz⟩
  have hg1 : g' = g := by simp [Trace.g?, ho] at hg'; exact hg'.symm
  subst hg1
  rcases h _ e he with h0 | h0
  · simp only at hb; rw [h0] at hb; cases hb
  · have := deaf_inside t g' fn pos es (i - t.size) hjs
    rw [show t.size + (i - t.size) = i by omega, hd] at this
    omega
/-- A step of the library's, of goroutine y. -/
theorem Com.tiS (h : Com P D G0 Sh wb s gs w t d0) (O : PhOk D) {y : Nat} (hy : ActN G0 s.j y) (hs : w'.heap.size = w.heap.size) (he : ∀ e ∈ es, EvS D y e)
    (hk : y = 0 ∨ ∀ jx e, es[jx]? = some e → (MemAct.ofEvent e).touch? = none ∨ 0 < deafBehind (Deaf t y) (es.extract 0 jx)) :
    TI (ShW D Sh) (RdN G0 s.j s.V s.wk) (WrN D G0 s.j s.V s.wk) (ActN G0 s.j) s.rel (G0 - 1) w'.heap.size (G0 + s.j) (t ++ MemOp.ofEvents y fn pos es) := by
  have g0 := h.g0
  have hwg : D.Wg + 1 ≤ w.heap.size := by have := h.wi.wgB; have := h.wi.size; omega
  refine h.ti.step (h.fit O) hy ?_ (by omega) ops_g (fun op hop b hb => ?_) (fun op hop => ?_) (fun i op b hi ho hb => ?_) (fun y b hr => .inl hr) (fun y ad hr => .inl hr)
  · rcases hy with rfl | ⟨i, hi, rfl⟩ <;> omega
  · obtain ⟨e, hee, rfl⟩ := Go.Conc.mem_ofEvents hop
    obtain ⟨⟨ad, h1, h2⟩, h3, h4⟩ := (he e hee).2.2 b hb
    exact .inr ⟨ad, h1, .inl ⟨.inl h2, h3, h4⟩⟩
  · obtain ⟨e, hee, rfl⟩ := Go.Conc.mem_ofEvents hop
    rw [hs]
    exact MemAct.low_mono hwg (he e hee).1
  · rcases hk with rfl | hk
    · exact .inl rfl
    · have hop : op ∈ MemOp.ofEvents y fn pos es := by
        rcases getElem?_append_cases ho with ⟨hlt, _⟩ | ⟨_, hu⟩
        · omega
        · exact hu
      obtain ⟨e, hee, rfl⟩ := Go.Conc.mem_ofEvents hop
      obtain ⟨⟨ad, h1, h2⟩, h3, h4⟩ := (he e hee).2.2 b hb
      rcases Nat.eq_zero_or_pos y with e0 | hpos
      · exact .inl e0
      · refine .inr (.inr ⟨⟨ad, h1, .inl h2⟩, ?_, not_heard rfl hk hi ho hb⟩)
        cases hbk : b.kind with
        | plain => exact absurd hbk h3
        | atomic => rfl
        | said => have := h4 hbk; omega
/-- A store of worker's i to a cell of its own. -/
theorem Com.tiC (h : Com P D G0 Sh wb s gs w t d0) (O : PhOk D) {i : Nat} (hi : i < s.j) (hwk : s.wk i = true) {a : Addr} (ho : D.own i a) (hs : w'.heap.size = w.heap.size) :
    TI (ShW D Sh) (RdN G0 s.j s.V s.wk) (WrN D G0 s.j s.V s.wk) (ActN G0 s.j) s.rel (G0 - 1) w'.heap.size (G0 + s.j) (t ++ MemOp.ofEvents (G0 + i) fn pos #[⟨.cell a, true, false⟩]) := by
  have g0 := h.g0
  have hab := h.badlt O _ (.inr (.inl (O.own i a ho).1))
  refine h.ti.step (h.fit O) (x := G0 + i) (.inr ⟨i, hi, rfl⟩) (by omega) (by omega) ops_g (fun op hop b hb => ?_) (fun op hop => ?_) (fun k op b _ _ _ => .inr (.inl ⟨by omega, (h.atWork hi hwk).2.2⟩)) (fun y b hr => .inl hr) (fun y ad hr => .inl hr)
  · obtain ⟨e, hee, rfl⟩ := Go.Conc.mem_ofEvents hop
    simp only [List.mem_toArray, List.mem_cons, List.not_mem_nil, or_false] at hee
    subst hee
    simp only [MemAct.ofEvent, MemAct.touch?, Option.some.injEq] at hb
    subst hb
    exact .inr ⟨a, rfl, .inr (.inr (.inl (.inr ⟨i, hi, rfl, hwk, .inr ho⟩)))⟩
  · obtain ⟨e, hee, rfl⟩ := Go.Conc.mem_ofEvents hop
    simp only [List.mem_toArray, List.mem_cons, List.not_mem_nil, or_false] at hee
    subst hee
    show a.block < _
    omega
end
end Go.Proofs.Ytgeflnjjppgooaa.Y

namespace Go.Proofs.Ytgeflnjjppgooaa.Y
open Go Go.Conc Go.RowKit Go.Proofs.Ytgeflnjjppgooaa Go.Proofs.Ytgeflnjjppgooaa.Q
open Go.ConcR (KK wgBlock WgAt stA smA rd wr mk Payload DC0 g_of_ofEvents Bk bk_of_mute ofEvent_loc_mark)
open Go.ConcN (get_map_set get_map_set_same WgLive PayAt Has RW DWs AtR0 WSit WD upd upd_same upd_ne CTag RelBy Vc Ssum cnt phi pend sumTo sumTo_upd phi_mono phi_retag bk_cell isW3 OpenSt Vc_upd Vc_le others_uncounted le_sumTo)
def bit (b : Bool) : Nat := if b then 1 else 0
def mu (D : Sc) (s : St) (tag : CTag) (e : Nat) (k : Rk) : Mu := (phi D.n (Vc s.j s.E) tag + Ssum s.j s.E + sumTo s.j (fun i => bit (s.wk i)) + e, s.F, k)
section
variable (P : Program) (D : Sc) (K : Goroutine → World → Prop) (G0 : Nat) (Sh : Nat → Prop) (wb : World)
def Inv (μ : Mu) (m : Machine) (t : Trace) : Prop :=
  ∃ (s : St) (gs : Array Goroutine) (w : World) (sl : Option (Nat × Nat)) (tag : CTag) (e : Nat) (k : Rk) (d0 : Nat) (a : Goroutine),
    m = crowd gs w sl ∧ gs[0]? = some a ∧ CSitM P D K tag s.j e k d0 a (s.V 0) w ∧ Com P D G0 Sh wb s gs w t d0 ∧ Go.ConcN.Mode s.j s.E tag s.st s.sm ∧ μ = mu D s tag e k
/-- What a step must show. -/
def Falls (gs : Array Goroutine) (w : World) (sl : Option (Nat × Nat)) (t : Trace) (i : Nat) (μ : Mu) : Prop :=
  ∃ m₁ ops μ', runT P (crowd gs w sl) i = (.next m₁, ops) ∧ Lt (G0 + D.n) μ' μ ∧ Inv P D K G0 Sh wb μ' m₁ (t ++ ops)
end
section
variable {P : Program} {D : Sc} {K : Goroutine → World → Prop} {G0 : Nat} {Sh : Nat → Prop} {wb : World} {s : St} {gs : Array Goroutine} {w w' : World} {sl : Option (Nat × Nat)} {t : Trace} {tag : CTag} {e d0 : Nat} {k : Rk} {a : Goroutine} {es : Array Event}
theorem CSitM.bound {j : Nat} {v : World} (h : CSitM P D K tag j e k d0 a v w) : j + pend tag ≤ D.n := by
  cases h <;> simp only [pend] <;> (try simp) <;> omega
theorem workerStep (ha : gs[0]? = some a) (h : Com P D G0 Sh wb s gs w t d0) (hcs : CSitM P D K tag s.j e k d0 a (s.V 0) w) {i : Nat} (hi : i < s.j) {g g' : Goroutine} (hg : gs[G0 + i]? = some g) (hgo : stepG P false g w = .go g' w' es)
    {s' : St} {E' : WD} {wk' : Bool} {r' : Rk} (h' : Com P D G0 Sh wb s' ((gs.map (woken P g g' w')).setIfInBounds (G0 + i) g') w' (t ++ MemOp.ofEvents (G0 + i) g.frame.fn g.frame.place es) d0)
    (hj : s'.j = s.j) (hE : s'.E = Go.ConcN.upd s.E i E') (hwk : s'.wk = Go.ConcN.upd s.wk i wk') (hF : s'.F = Go.ConcN.upd s.F (G0 + i) r') (hx0 : Ext (s.V 0) (s'.V 0))
    (hmode : ∀ tag', (tag' = tag ∨ (tag = .blk ∧ tag' = .w3)) → (mayWake P g = true → g'.status = .running → tag' ≠ .blk) → Go.ConcN.Mode s.j (Go.ConcN.upd s.E i E') tag' s'.st s'.sm)
    (hlt : (E'.stage + bit wk' < (s.E i).stage + bit (s.wk i) ∧ cnt E' ≤ cnt (s.E i)) ∨ (E'.stage = (s.E i).stage ∧ wk' = s.wk i ∧ Dn r' (s.F (G0 + i)))) :
    Falls P D K G0 Sh wb gs w sl t (G0 + i) (mu D s tag e k) := by
  have g0 := h.g0
  have hb := hcs.bound
  obtain ⟨tag', k', hcs', htag, hwkn⟩ := hcs.wokenBy hx0 (h'.wi.rl (w := w)) g g'
  have hne : (G0 + i == 0) = false := by simp; omega
  have hrun := runT_crowd_go (P := P) (sl := sl) (i := G0 + i) hg (by rw [hne]; exact hgo)
  have e1 := sumTo_upd s.E E' cnt hi
  have e2 := sumTo_upd s.E E' WD.stage hi
  have e3 := sumTo_upd s.wk wk' bit hi
  refine ⟨_, _, mu D s' tag' e k', hrun, ?_, s', _, w', sl, tag', e, k', d0, woken P g g' w' a, rfl, ?_, by rw [hj]; exact hcs', h', by rw [hj, hE]; exact hmode tag' htag hwkn, rfl⟩
  · simp only [mu, hj, hE, hwk, hF]
    rw [phi_retag D.n _ htag]
    simp only [Vc, Ssum] at *
    rcases hlt with ⟨h1, h2⟩ | ⟨h1, h2, h3⟩
    · refine Lt.num ?_
      have := phi_mono D.n (v' := sumTo s.j fun a => cnt (Go.ConcN.upd s.E i E' a)) (v := sumTo s.j fun a => cnt (s.E a)) (by omega) tag
      omega
    · have ec : cnt E' = cnt (s.E i) := by simp only [cnt, h1]
      have ev : (sumTo s.j fun a => cnt (Go.ConcN.upd s.E i E' a)) = sumTo s.j fun a => cnt (s.E a) := by omega
      have es' : (sumTo s.j fun a => (Go.ConcN.upd s.E i E' a).stage) = sumTo s.j fun a => (s.E a).stage := by omega
      have eb : (sumTo s.j fun a => bit (Go.ConcN.upd s.wk i wk' a)) = sumTo s.j fun a => bit (s.wk a) := by rw [h2] at e3 ⊢; omega
      rw [ev, es', eb]
      refine Lt.vec ⟨G0 + i, by omega, by rw [upd_same]; exact h3, fun y hy => upd_ne s.F _ hy⟩
  · rw [get_map_set _ _ _ _ (by omega), ha]; rfl
/-- At most the group's block turns. -/
theorem wi_wg (h : Com P D G0 Sh wb s gs w t d0) (O : PhOk D) (hA : Go.Conc.Aside D.Wg w w') {st' sm' : Int} (hw : WgAt D.ty D.Wg w' st' sm') : WI D wb s.j s.σ st' sm' w' :=
  h.wi.same O hw (fun b hb => hA.block b (O.arr b hb).1) (fun b _ h1 _ => hA.block b h1) (by rw [hA.size]; exact Nat.le_refl _) hA.tape hA.os hA.output
theorem vi_wg (h : Com P D G0 Sh wb s gs w t d0) (hA : Go.Conc.Aside D.Wg w w') {st' sm' : Int} (hw : WgAt D.ty D.Wg w' st' sm') : VI (Bad D Sh) D.vb.heap.size s.j (fun y => up (s.V y) w') w' := by
  have h1 := h.wi.wg
  unfold WgAt wgBlock at h1 hw
  exact h.vi.block h1 (by simp) hw (fun k hk => hA.block k hk) hA.size hA.tape hA.os hA.output fun x hx hr => h.vi.bad x hx _ (.inl rfl) hr
theorem upd_id {α : Type} (f : Nat → α) (i : Nat) : Go.ConcN.upd f i (f i) = f := by
  funext a
  by_cases h : a = i
  · subst h; exact upd_same _ _ _
  · exact upd_ne f _ h
theorem bk_evS {y : Nat} {e : Event} (h : Bk D.Wg e) : EvS D y e := by
  rcases h with h1 | h1 | ⟨a, wr, rfl, ha⟩
  · obtain ⟨l, ww, sy⟩ := e
    simp only at h1; subst h1
    exact ⟨trivial, by simp, fun b hb => by simp [MemAct.ofEvent, MemAct.touch?] at hb⟩
  · obtain ⟨l, ww, sy⟩ := e
    simp only at h1; subst h1
    exact ⟨trivial, by simp, fun b hb => by simp [MemAct.ofEvent, MemAct.touch?] at hb⟩
  · exact evS_at a wr ha
theorem rd_wk {i : Nat} {wk' : Bool} (hw : wk' = true → s.wk i = true) {y b : Nat} : RdN G0 s.j s.V (Go.ConcN.upd s.wk i wk') y b → RdN G0 s.j s.V s.wk y b := by
  rintro (h | ⟨i', h1, h2, h3, h4⟩)
  · exact .inl h
  · refine .inr ⟨i', h1, h2, ?_, h4⟩
    by_cases e : i' = i
    · subst e; rw [upd_same] at h3; exact hw h3
    · rw [upd_ne s.wk _ e] at h3; exact h3
theorem wr_wk {i : Nat} {wk' : Bool} (hw : wk' = true → s.wk i = true) {y : Nat} {ad : Addr} : WrN D G0 s.j s.V (Go.ConcN.upd s.wk i wk') y ad → WrN D G0 s.j s.V s.wk y ad := by
  rintro (h | ⟨i', h1, h2, h3, h4⟩)
  · exact .inl h
  · refine .inr ⟨i', h1, h2, ?_, h4⟩
    by_cases e : i' = i
    · subst e; rw [upd_same] at h3; exact hw h3
    · rw [upd_ne s.wk _ e] at h3; exact h3
/-- A step of the library's, of worker i on its way out. -/
theorem wBook (O : PhOk D) (ha : gs[0]? = some a) (h : Com P D G0 Sh wb s gs w t d0) (hcs : CSitM P D K tag s.j e k d0 a (s.V 0) w) {i : Nat} (hi : i < s.j) {g g' : Goroutine} (hg : gs[G0 + i]? = some g) (hgo : stepG P false g w = .go g' w' es)
    {st' sm' : Int} (hA : Go.Conc.Aside D.Wg w w') (hw : WgAt D.ty D.Wg w' st' sm') {E' : WD} {m : Nat} (hsit : WSitM P D i false E' (nat m) (s.σ i) (s.V (i + 1)) g' w') (hfin : D.fin i (s.σ i) (s.V (i + 1)))
    (he : ∀ e ∈ es, EvS D (G0 + i) e) (hdl : ∀ jx e, es[jx]? = some e → (MemAct.ofEvent e).touch? = none ∨ 0 < deafBehind (s.E i).deaf (es.extract 0 jx)) (hd : deafBehind (s.E i).deaf es = E'.deaf)
    {rel' : Nat → Option Nat} (hti : ∀ V wk' : _, TI (ShW D Sh) (RdN G0 s.j V wk') (WrN D G0 s.j V wk') (ActN G0 s.j) s.rel (G0 - 1) w'.heap.size (G0 + s.j) (t ++ MemOp.ofEvents (G0 + i) g.frame.fn g.frame.place es) →
      TI (ShW D Sh) (RdN G0 s.j V wk') (WrN D G0 s.j V wk') (ActN G0 s.j) rel' (G0 - 1) w'.heap.size (G0 + s.j) (t ++ MemOp.ofEvents (G0 + i) g.frame.fn g.frame.place es))
    (hrel : E'.stage ≤ 6 → ∃ r, rel' (G0 + i) = some r ∧ RelBy (stA D.Wg) (t ++ MemOp.ofEvents (G0 + i) g.frame.fn g.frame.place es) (G0 + i) r) (hreln : 7 ≤ E'.stage → rel' (G0 + i) = none) (hro : ∀ y, y ≠ G0 + i → rel' y = s.rel y)
    (hmode : ∀ tag', (tag' = tag ∨ (tag = .blk ∧ tag' = .w3)) → (mayWake P g = true → g'.status = .running → tag' ≠ .blk) → Go.ConcN.Mode s.j (Go.ConcN.upd s.E i E') tag' st' sm')
    (hlt : (E'.stage < (s.E i).stage + bit (s.wk i) ∧ cnt E' ≤ cnt (s.E i)) ∨ (E'.stage = (s.E i).stage ∧ s.wk i = false ∧ Dn (nat m) (s.F (G0 + i)))) :
    Falls P D K G0 Sh wb gs w sl t (G0 + i) (mu D s tag e k) := by
  have hti0 := h.tiS (w' := w') (fn := g.frame.fn) (pos := g.frame.place) O (.inr ⟨i, hi, rfl⟩) hA.size he (.inr (by rw [h.deafW i hi]; exact hdl))
  have h1 := hti (fun y => up (s.V y) w') (Go.ConcN.upd s.wk i false) (hti0.weak (fun y b hr => rd_wk (by simp) (rd_up.1 hr)) (fun y ad hr => wr_wk (by simp) (wr_up.1 hr)) fun _ => id)
  have hWI := wi_wg h O hA hw
  have h2 := h.worker O hi (g := g) (g' := g') (E' := E') (wk' := false) (σ' := s.σ i) (r' := nat m) (rel' := rel') (st' := st') (sm' := sm') (vi_wg h hA hw) (by rw [upd_id]; exact hWI) (fun y _ _ => up_ext _ _) h1 (hsit.rely (up_ext _ _) (hWI.rw hWI)) (fun e hee => (he e hee).2.1) hd hrel hreln hro
    (fun _ => O.finX _ _ _ _ hfin (up_ext _ _))
  refine workerStep ha h hcs hi hg hgo h2 rfl rfl rfl rfl (up_ext _ _) hmode ?_
  · rcases hlt with ⟨h2, h3⟩ | ⟨h2, h3, h4⟩
    · exact .inl ⟨by simpa [bit] using h2, h3⟩
    · exact .inr ⟨h2, h3.symm, h4⟩
/-- .. behind its release. -/
theorem wOut (O : PhOk D) (ha : gs[0]? = some a) (h : Com P D G0 Sh wb s gs w t d0) (hcs : CSitM P D K tag s.j e k d0 a (s.V 0) w) {i : Nat} (hi : i < s.j) {g g' : Goroutine} (hg : gs[G0 + i]? = some g) (hgo : stepG P false g w = .go g' w' es)
    {st' sm' : Int} (hA : Go.Conc.Aside D.Wg w w') (hw : WgAt D.ty D.Wg w' st' sm') (hwk : s.wk i = false) (h6 : (s.E i).stage ≤ 6) {q m dd q' : Nat}
    (hsit : letI := D.pay; WSit P D.ty D.Wg D.c 1 FF FF 0 1 D.x q m dd g' w') (hq6 : q ≤ 6)
    (he : ∀ e ∈ es, Bk D.Wg e) (hdl : ∀ jx e, es[jx]? = some e → (MemAct.ofEvent e).touch? = none ∨ 0 < deafBehind (s.E i).deaf (es.extract 0 jx)) (hd : deafBehind (s.E i).deaf es = dd)
    (hmode : ∀ tag', (tag' = tag ∨ (tag = .blk ∧ tag' = .w3)) → (mayWake P g = true → g'.status = .running → tag' ≠ .blk) → Go.ConcN.Mode s.j (Go.ConcN.upd s.E i ⟨q, q', dd⟩) tag' st' sm')
    (hlt : (q < (s.E i).stage) ∨ (q = (s.E i).stage ∧ Dn (nat m) (s.F (G0 + i)))) :
    Falls P D K G0 Sh wb gs w sl t (G0 + i) (mu D s tag e k) := by
  obtain ⟨r, hr1, hr2⟩ := h.rel i hi h6
  refine wBook O ha h hcs hi hg hgo hA hw (E' := ⟨q, q', dd⟩) (m := m) (.inr ⟨rfl, m, rfl, .inr ⟨by show q ≠ 7; omega, hsit⟩⟩) (h.fin i hi hwk) (fun e hee => bk_evS (he e hee)) hdl hd (rel' := s.rel) (fun _ _ h => h)
    (fun _ => ⟨r, hr1, hr2.book (h.deafW i hi) _ _ he hdl⟩) (fun h7 => by simp only at h7; omega) (fun _ _ => rfl) hmode ?_
  rcases hlt with h2 | ⟨h2, h3⟩
  · exact .inl ⟨by simp only; omega, by simp only [cnt]; split <;> split <;> omega⟩
  · exact .inr ⟨h2, hwk, h3⟩
/-- From the end of its own work to the release. -/
theorem wR0 (O : PhOk D) (ha : gs[0]? = some a) (h : Com P D G0 Sh wb s gs w t d0) (hcs : CSitM P D K tag s.j e k d0 a (s.V 0) w) (hmode : Go.ConcN.Mode s.j s.E tag s.st s.sm) {i : Nat} (hi : i < s.j) {g : Goroutine} (hg : gs[G0 + i]? = some g) (h7 : (s.E i).stage = 7) (hd0 : (s.E i).deaf = 0)
    (hfin : D.fin i (s.σ i) (s.V (i + 1))) {m : Nat} (hgo : letI := D.pay; Goes P false (RW D.ty D.Wg D.c 1 0 0) DC0 (AtR0 P D.ty D.Wg D.c 1 0 1 D.x) m g w) (hm : s.wk i = true ∨ (s.wk i = false ∧ s.F (G0 + i) = nat m)) :
    Falls P D K G0 Sh wb gs w sl t (G0 + i) (mu D s tag e k) := by
  letI := D.pay
  have hdk : Deaf t (G0 + i) = 0 := by rw [h.deafW i hi, hd0]
  have hn : s.rel (G0 + i) = none := h.reln i fun _ => by omega
  rcases Goes.cases hgo with hstop | ⟨m', rfl, hstep⟩
  · obtain ⟨_, hhas, g', hst, m₂, hk⟩ := hstop w (Go.ConcN.RW.refl w)
    refine wBook O ha h hcs hi hg hst (.refl D.Wg w) h.wi.wg (E' := ⟨6, 0, 0⟩) (m := m₂) (.inr ⟨rfl, m₂, rfl, .inr ⟨by simp, .k1 hk⟩⟩) hfin (fun e hee => ?_) (fun jx e hee => .inl ?_) (by rw [hd0]; rfl) (rel' := Go.ConcN.upd s.rel (G0 + i) (some t.size))
      (fun V wk' ht => ht.note fun i' b hb => ?_) (fun _ => ⟨t.size, upd_same _ _ _, RelBy.new hdk _ _⟩) (fun h => by simp at h) (fun y hy => upd_ne s.rel _ hy) (fun _ ht _ => (hmode.counted hi (by omega) (.inl rfl) _ _).retag ht) ?_
    · simp at hee; subst hee
      exact evS_mk (by simp) (by show D.Wg < _; omega) rfl
    · have := Array.mem_of_getElem? hee; simp at this; subst this; rfl
    · obtain ⟨z, hz, hza⟩ := touch_of hb
      rcases getElem?_append_cases hz with ⟨hlt, _⟩ | ⟨_, hu⟩
      · exact hlt
      · obtain ⟨x, hx, rfl⟩ := Go.Conc.mem_ofEvents hu
        simp at hx; subst hx
        simp [mk, MemAct.ofEvent, MemAct.touch?] at hza
    · exact .inl ⟨by rw [h7]; simp only; omega, by simp [cnt, h7]⟩
  · obtain ⟨g', w', es, hst, ⟨rfl, rfl⟩, hg'⟩ := hstep w (Go.ConcN.RW.refl w)
    refine wBook O ha h hcs hi hg hst (.refl D.Wg _) h.wi.wg (E' := ⟨7, 0, 0⟩) (m := m') (.inr ⟨rfl, m', rfl, .inl ⟨rfl, rfl, hg'⟩⟩) hfin (by simp) (by simp) (by rw [hd0]; rfl) (rel' := s.rel) (fun _ _ h => h) (fun h => by simp at h) (fun _ => hn) (fun _ _ => rfl) (fun _ ht _ => Go.ConcN.Mode.retag ?_ ht) ?_
    · exact hmode.congr fun b _ => by
        by_cases e : b = i
        · subst e; rw [upd_same]; exact h7.symm
        · rw [upd_ne s.E _ e]
    · rcases hm with h1 | ⟨h1, h2⟩
      · exact .inl ⟨by rw [h7, h1]; simp [bit], by simp [cnt, h7]⟩
      · exact .inr ⟨h7.symm, h1, by rw [h2]; exact dn_nat m'⟩
end
end Go.Proofs.Ytgeflnjjppgooaa.Y

namespace Go.Proofs.Ytgeflnjjppgooaa.Y
open Go Go.Conc Go.RowKit Go.Proofs.Ytgeflnjjppgooaa Go.Proofs.Ytgeflnjjppgooaa.Q
open Go.ConcR (KK wgBlock WgAt stA smA rd wr mk Payload DC0 g_of_ofEvents Bk bk_of_mute ofEvent_loc_mark)
open Go.ConcN (get_map_set get_map_set_same WgLive PayAt Has RW DWs AtR0 WSit WD upd upd_same upd_ne CTag RelBy Vc Ssum cnt phi pend sumTo sumTo_upd phi_mono phi_retag bk_cell isW3 OpenSt Vc_upd Vc_le others_uncounted le_sumTo)
section
variable {P : Program} {D : Sc} {K : Goroutine → World → Prop} {G0 : Nat} {Sh : Nat → Prop} {wb : World} {s : St} {gs : Array Goroutine} {w : World} {sl : Option (Nat × Nat)} {t : Trace} {tag : CTag} {e d0 : Nat} {k : Rk} {a : Goroutine}
theorem mode_same {j i : Nat} {E : Nat → WD} {tag : CTag} {st sm : Int} (hm : Go.ConcN.Mode j E tag st sm) (E' : WD) (h : E'.stage = (E i).stage) : Go.ConcN.Mode j (Go.ConcN.upd E i E') tag st sm :=
  hm.congr fun b _ => by
    by_cases e : b = i
    · subst e; rw [upd_same]; exact h
    · rw [upd_ne E _ e]
/-- Its own work: a step in its view. -/
theorem wView (O : PhOk D) (ha : gs[0]? = some a) (h : Com P D G0 Sh wb s gs w t d0) (hcs : CSitM P D K tag s.j e k d0 a (s.V 0) w) (hmode : Go.ConcN.Mode s.j s.E tag s.st s.sm) {i : Nat} (hi : i < s.j) {g g' : Goroutine} (hg : gs[G0 + i]? = some g)
    (hwk : s.wk i = true) {v' : World} (hs : StepTo P false g (s.V (i + 1)) g' v') {r' : Rk} (hd : Dn r' (s.F (G0 + i))) (hn : GoW P D i r' (s.σ i) g' v') : Falls P D K G0 Sh wb gs w sl t (G0 + i) (mu D s tag e k) := by
  obtain ⟨h7, hd0, hrn⟩ := h.atWork hi hwk
  obtain ⟨w', es, hgo, hc, he⟩ := hs w (h.vi.view (i + 1) (by omega))
  have hVI := h.vi.step (x := i + 1) (by omega) hc (h.badlt O) h.wi.size
  have hWI := h.wi.step O h.vi (fun b hb => hb.elim .inl fun hb => .inr (.inl hb)) (y := i + 1) (by omega) hc
  have hti := h.tiV (fn := g.frame.fn) (pos := g.frame.place) O (x := i + 1) (by omega) (fun i' e => by rw [show i' = i by omega]; exact hwk) hc he
  have hx : ∀ y, y ≠ i + 1 → Ext (s.V y) ((fun y => if y = i + 1 then v' else up (s.V y) w') y) := fun y hy => by simp only [if_neg hy]; exact up_ext _ _
  have hdb : deafBehind (s.E i).deaf es = (s.E i).deaf := deafBehind_still (fun x hx => ⟨(evok_mark (he x hx)).1, (evok_mark (he x hx)).2.1⟩) _
  have h2 := h.worker O hi (g := g) (g' := g') (E' := s.E i) (wk' := true) (σ' := s.σ i) (r' := r') (rel' := s.rel) hVI (by rw [upd_id]; exact hWI) (fun y _ hy => hx _ (by omega)) (by
      have e1 : Go.ConcN.upd s.wk i true = s.wk := by rw [← hwk, upd_id]
      rw [e1]; exact hti) (.inl ⟨rfl, h7, hd0, by simp only [if_true]; exact hn⟩) (fun x hx => (evok_mark (he x hx)).2.2) hdb (fun h6 => by omega) (fun _ => hrn) (fun _ _ => rfl) (fun h => by cases h)
  exact workerStep ha h hcs hi hg hgo h2 rfl rfl rfl rfl (hx 0 (by omega)) (fun _ ht _ => (mode_same hmode (s.E i) rfl).retag ht) (.inr ⟨rfl, hwk.symm, hd⟩)
/-- .. a store to a cell of its own. -/
theorem wStore (O : PhOk D) (ha : gs[0]? = some a) (h : Com P D G0 Sh wb s gs w t d0) (hcs : CSitM P D K tag s.j e k d0 a (s.V 0) w) (hmode : Go.ConcN.Mode s.j s.E tag s.st s.sm) {i : Nat} (hi : i < s.j) {g g' : Goroutine} (hg : gs[G0 + i]? = some g)
    (hwk : s.wk i = true) {ad : Addr} {y : Value} (hs : Stores P D i (s.σ i) g ad y g') {r' : Rk} (hd : Dn r' (s.F (G0 + i))) (hn : GoW P D i r' ((ad, y) :: s.σ i) g' (s.V (i + 1))) : Falls P D K G0 Sh wb gs w sl t (G0 + i) (mu D s tag e k) := by
  obtain ⟨h7, hd0, hrn⟩ := h.atWork hi hwk
  obtain ⟨ho, hne, hst⟩ := hs
  obtain ⟨har, hsp, z, hz⟩ := O.own i ad ho
  obtain ⟨hnW, c, ty, hvb⟩ := O.arr _ har
  obtain ⟨c', hw1, hcs'⟩ := h.wi.arrs _ c ty (0, 0) har hvb
  have hoff : ad.off < c.size := by
    simp only [World.cell?, hvb, hsp] at hz
    exact (Array.getElem?_eq_some_iff.1 hz).1
  have hcell : ∃ z', w.cell? ad = some z' := by
    simp only [World.cell?, hw1, hsp]
    exact ⟨c'[ad.off], by simp [hcs', hoff]⟩
  obtain ⟨z', hz'⟩ := hcell
  have hfr : w.frozen? ad = false := by simp [World.frozen?, hw1]
  have hgo := hst w z' hz' hfr
  have hheap : ∀ b, (w.setCell ad y).heap[b]? = if ad.block = b then (w.heap[b]?).map (fun o => match o with | .cells c t z => .cells (if ad.spot.isSome = true then c else c.setIfInBounds ad.off y) t z | o => o) else w.heap[b]? := setCell_heap w ad y
  have hnew : (w.setCell ad y).heap[ad.block]? = some (.cells (c'.setIfInBounds ad.off y) ty (0, 0)) := by rw [hheap, if_pos rfl, hw1]; simp [hsp]
  have hoth : ∀ b, b ≠ ad.block → (w.setCell ad y).heap[b]? = w.heap[b]? := fun b hb => by rw [hheap, if_neg (Ne.symm hb)]
  have hsz : (w.setCell ad y).heap.size = w.heap.size := by simp [World.setCell]
  have hc0 : c' ≠ #[] := by rintro rfl; simp at hcs'; omega
  have hVI := h.vi.block hw1 hc0 hnew hoth hsz rfl rfl rfl fun x hx hr => h.vi.bad x hx _ (.inr (.inl har)) hr
  have hcel : ∀ p : Addr, p ≠ ad → p.spot = none → (w.setCell ad y).cell? p = w.cell? p := fun p hp hps => by
    by_cases e : p.block = ad.block
    · have hpo : p.off ≠ ad.off := fun e2 => hp (by cases p; cases ad; simp_all)
      simp only [World.cell?, e, hnew, hw1, hps]
      simp [Array.getElem?_setIfInBounds_ne (Ne.symm hpo)]
    · exact cell_same (hoth _ e)
  have hWI : WI D wb s.j (Go.ConcN.upd s.σ i ((ad, y) :: s.σ i)) s.st s.sm (w.setCell ad y) := by
    refine ⟨h.wi.wg.of_block (hoth _ (Ne.symm hnW)), fun b d ty' z hb hd => ?_, fun i' hi' p hp => ?_, fun b h1 h2 h3 => (hoth b (fun e => by rw [e, har] at h3; cases h3)).trans (h.wi.old b h1 h2 h3), h.wi.tape, h.wi.os, h.wi.output, by rw [hsz]; exact h.wi.size, h.wi.wgB, ?_⟩
    · by_cases e : b = ad.block
      · subst e
        obtain ⟨d', h1, h2⟩ := h.wi.arrs _ d ty' z hb hd
        rw [hw1] at h1
        cases h1
        exact ⟨_, hnew, by simp [h2]⟩
      · rw [hoth b e]; exact h.wi.arrs b d ty' z hb hd
    · by_cases e : i' = i
      · subst e
        rw [upd_same] at hp
        rcases List.mem_cons.1 hp with rfl | hp
        · refine ⟨ho, ?_⟩
          simp only [World.cell?, hnew, hsp]
          rw [← hcs'] at hoff
          simp [hoff]
        · obtain ⟨h1, h2⟩ := h.wi.sig i' hi p hp
          exact ⟨h1, (hcel _ (hne p hp) (O.own _ _ h1).2.1).trans h2⟩
      · rw [upd_ne s.σ _ e] at hp
        obtain ⟨h1, h2⟩ := h.wi.sig i' hi' p hp
        exact ⟨h1, (hcel p.1 (fun e2 => e (O.own1 _ _ _ h1 (by rw [e2]; exact ho))) (O.own _ _ h1).2.1).trans h2⟩
    · exact (hoth _ fun e2 => by rw [← e2, O.c.2.1] at har; cases har).trans h.wi.pay
  have hti := h.tiC (w' := w.setCell ad y) (fn := g.frame.fn) (pos := g.frame.place) O hi hwk ho hsz
  have e1 : Go.ConcN.upd s.wk i true = s.wk := by rw [← hwk, upd_id]
  have h2 := h.worker O hi (g := g) (g' := g') (E' := s.E i) (wk' := true) (σ' := (ad, y) :: s.σ i) (r' := r') (rel' := s.rel) hVI hWI (fun y _ _ => up_ext _ _)
    (by rw [e1]; exact hti.weak (fun y b hr => rd_up.1 hr) (fun y ad hr => wr_up.1 hr) fun _ => id) (.inl ⟨rfl, h7, hd0, hn.ext (up_ext _ _)⟩) (by intro x hx; simp at hx; subst hx; simp) rfl (fun h6 => by omega) (fun _ => hrn) (fun _ _ => rfl) (fun h => by cases h)
  exact workerStep ha h hcs hi hg hgo h2 rfl rfl rfl rfl (up_ext _ _) (fun _ ht _ => (mode_same hmode (s.E i) rfl).retag ht) (.inr ⟨rfl, hwk.symm, hd⟩)
set_option maxHeartbeats 1600000 in
/-- WHATEVER STEP OF A WORKER's. -/
theorem stepWorker (O : PhOk D) (ha : gs[0]? = some a) (h : Com P D G0 Sh wb s gs w t d0) (hcs : CSitM P D K tag s.j e k d0 a (s.V 0) w) (hmode : Go.ConcN.Mode s.j s.E tag s.st s.sm) {i : Nat} (hi : i < s.j) {g : Goroutine} (hg : gs[G0 + i]? = some g) (hrun : g.status = .running) :
    Falls P D K G0 Sh wb gs w sl t (G0 + i) (mu D s tag e k) := by
  letI := D.pay
  obtain ⟨g₁, hg₁, hs⟩ := h.wks i hi
  obtain rfl : g = g₁ := by rw [hg] at hg₁; exact Option.some.inj hg₁
  have hO := O.n
  rcases hs with ⟨hwk, h7, hd0, hs⟩ | ⟨hwk, m, hm, ⟨h7, hd0, hs⟩ | ⟨hn7, hs⟩⟩
  · rcases hs.cases with ⟨_, hfin, hl⟩ | ⟨_, r', hd, ⟨g', v', h1, h2⟩ | ⟨ad, y, g', h1, h2⟩⟩
    · obtain ⟨m, hgo⟩ := hl w h.wi.live h.wi.has
      exact wR0 O ha h hcs hmode hi hg h7 hd0 hfin hgo (.inl hwk)
    · exact wView O ha h hcs hmode hi hg hwk h1 hd h2
    · exact wStore O ha h hcs hmode hi hg hwk h1 hd h2
  · exact wR0 O ha h hcs hmode hi hg h7 hd0 (h.fin i hi hwk) hs (.inr ⟨hwk, hm⟩)
  have hb := hcs.bound
  have hVj := Vc_le s.j s.E
  have hwg := h.wi.wg
  generalize hst : (s.E i).stage = q at hs
  generalize hde : (s.E i).deaf = dd at hs
  -- nothing turns, nothing is listed
  have idle : ∀ {g' : Goroutine} {m' : Nat}, stepG P false g w = .go g' w #[] → WSit P D.ty D.Wg D.c 1 FF FF 0 1 D.x q m' dd g' w → m' + 1 = m → q ≤ 6 → Falls P D K G0 Sh wb gs w sl t (G0 + i) (mu D s tag e k) := by
    intro g' m' hgo hs' hm' h6
    exact wOut O ha h hcs hi hg hgo (.refl D.Wg w) hwg hwk (by omega) (q' := 0) hs' h6 (by simp) (by simp) (by rw [hde]; rfl) (fun _ ht _ => (mode_same hmode ⟨q, 0, dd⟩ hst.symm).retag ht) (.inr ⟨hst.symm, by rw [hm, ← hm']; exact dn_nat m'⟩)
  have bk1 : ∀ e ∈ #[rd (stA D.Wg)], Bk D.Wg e := by intro e he; simp at he; subst he; exact bk_cell _ _ rfl
  have bk2 : ∀ e ∈ #[rd (stA D.Wg), wr (stA D.Wg)], Bk D.Wg e := by intro e he; simp at he; rcases he with rfl | rfl <;> exact bk_cell _ _ rfl
  have bkw : ∀ e ∈ #[wr (stA D.Wg)], Bk D.Wg e := by intro e he; simp at he; subst he; exact bk_cell _ _ rfl
  cases hs with
  | r0 _ => exact absurd hst hn7
  | k1 hs =>
    rcases Goes.cases hs with hstop | ⟨m', rfl, hstep⟩
    · obtain ⟨_, g', hgo, m₂, hk⟩ := hstop w (Go.ConcN.RW.refl w)
      exact wOut O ha h hcs hi hg hgo (.refl D.Wg w) hwg hwk (by omega) (q' := 0) (.d1 hk) (by omega) (by intro e he; simp at he; subst he; exact .inl rfl) (by intro jx e he; exact .inl (by have := Array.mem_of_getElem? he; simp at this; subst this; rfl)) (by rw [hde]; rfl)
        (fun _ ht _ => (hmode.counted hi (by omega) (.inr rfl) _ _).retag ht) (.inl (by omega))
    · obtain ⟨g', w', es, hgo, ⟨rfl, rfl⟩, hg'⟩ := hstep w (Go.ConcN.RW.refl w)
      exact idle hgo (.k1 hg') rfl (by omega)
  | d1 hs =>
    rcases Goes.cases hs with hstop | ⟨m', rfl, hstep⟩
    · obtain ⟨_, hall⟩ := hstop w (Go.ConcN.RW.refl w)
      have hc1 : cnt (s.E i) = 1 := by simp [cnt, hst]
      have hV1 : 1 ≤ Vc s.j s.E := by have := le_sumTo (f := fun x => cnt (s.E x)) hi; simp only [Vc]; omega
      have df2 : ∀ jx e, (#[rd (stA D.Wg), wr (stA D.Wg)] : Array Event)[jx]? = some e → (MemAct.ofEvent e).touch? = none ∨ 0 < deafBehind (s.E i).deaf ((#[rd (stA D.Wg), wr (stA D.Wg)] : Array Event).extract 0 jx) := by
        intro jx e he
        rw [hde]
        match jx, he with
        | 0, _ => exact .inr (by simp [deafBehind])
        | 1, _ => exact .inr (by simp [deafBehind, rd])
        | jx + 2, he => simp at he
      have opq : OpenSt s.j s.E → OpenSt s.j (Go.ConcN.upd s.E i ⟨1, 0, 1⟩) := fun h a ha => by
        by_cases e : a = i
        · subst e; rw [upd_same]; simp
        · rw [upd_ne s.E _ e]; exact h a ha
      have hvu := Vc_upd s.E (⟨1, 0, 1⟩ : WD) hi
      have hq0 : cnt (⟨1, 0, 1⟩ : WD) = 0 := rfl
      generalize hem : s.st = stv at hmode hwg
      generalize hes : s.sm = smv at hmode hwg
      cases hmode with
      | opn h1 h2 h3 =>
        obtain ⟨v, hv⟩ : ∃ v, Vc s.j s.E + pend tag = v + 1 := ⟨Vc s.j s.E + pend tag - 1, by omega⟩
        rw [hv] at hwg
        have hw1 : WgAt D.ty D.Wg w (((v : Nat) + 1) * KK + ((0 : Nat) : Int)) 0 := by simpa using hwg
        obtain ⟨g', hgo, _, hq⟩ := hall v 0 (by omega) (by omega) hw1
        obtain ⟨q2, hq⟩ := hq (by omega)
        refine wOut O ha h hcs hi hg hgo (aside_setCell w (stA D.Wg) _) (hwg.setSt _) hwk (by omega) (q' := 0) (.quit hq) (by omega) bk2 df2 (by rw [hde]; rfl) (fun _ ht _ => Go.ConcN.Mode.retag ?_ ht) (.inl (by omega))
        have e : ((v : Nat) : Int) * KK + ((0 : Nat) : Int) = ((Vc s.j (Go.ConcN.upd s.E i ⟨1, 0, 1⟩) + pend tag : Nat) : Int) * KK := by rw [show Vc s.j (Go.ConcN.upd s.E i ⟨1, 0, 1⟩) + pend tag = v by omega]; simp
        rw [e]
        exact .opn h1 (opq h2) (fun vs ev => by have := h3 vs ev; omega)
      | reg h1 h2 h3 =>
        obtain ⟨v, hv⟩ : ∃ v, Vc s.j s.E = v + 1 := ⟨Vc s.j s.E - 1, by omega⟩
        rw [hv] at hwg
        have hp : pend tag = 0 := by cases tag <;> first | rfl | exact h1.elim
        have hw1 : WgAt D.ty D.Wg w (((v : Nat) + 1) * KK + ((1 : Nat) : Int)) 0 := by simpa using hwg
        obtain ⟨g', hgo, hl, hq⟩ := hall v 1 (by omega) (by omega) hw1
        by_cases hv0 : v = 0
        · subst hv0
          obtain ⟨m₂, hk⟩ := hl ⟨rfl, rfl⟩
          refine wOut O ha h hcs hi hg hgo (aside_setCell w (stA D.Wg) _) (hwg.setSt _) hwk (by omega) (q' := 0) (.d2 hk) (by omega) bk2 df2 (by rw [hde]; rfl) (fun _ ht _ => Go.ConcN.Mode.retag ?_ ht) (.inl (by omega))
          have hoth : ∀ a, a < s.j → a ≠ i → (s.E a).stage = 1 := fun a ha e => by
            have c0 := others_uncounted hi hv hc1 a ha e
            have := h2 a ha
            simp only [cnt] at c0
            split at c0 <;> omega
          have := Go.ConcN.Mode.last (j := s.j) (D := Go.ConcN.upd s.E i ⟨4, 0, 1⟩) (tag := tag) i h1 hi (by rw [upd_same]; simp) (fun a ha e => by rw [upd_ne s.E _ e]; exact hoth a ha e)
          rw [upd_same] at this
          simpa using this
        · obtain ⟨q2, hq⟩ := hq (by omega)
          refine wOut O ha h hcs hi hg hgo (aside_setCell w (stA D.Wg) _) (hwg.setSt _) hwk (by omega) (q' := 0) (.quit hq) (by omega) bk2 df2 (by rw [hde]; rfl) (fun _ ht _ => Go.ConcN.Mode.retag ?_ ht) (.inl (by omega))
          have e : ((v : Nat) : Int) * KK + ((1 : Nat) : Int) = ((Vc s.j (Go.ConcN.upd s.E i ⟨1, 0, 1⟩) : Nat) : Int) * KK + 1 := by rw [show Vc s.j (Go.ConcN.upd s.E i ⟨1, 0, 1⟩) = v by omega]; simp
          rw [e]
          exact .reg h1 (opq h2) (by omega)
      | last L _ h2 h3 h4 =>
        by_cases e : i = L
        · subst e; omega
        · have := h4 i hi e; omega
      | sema h2 => have := h2 i hi; omega
      | fin _ h2 => have := h2 i hi; omega
    · obtain ⟨g', w', es, hgo, ⟨rfl, rfl⟩, hg'⟩ := hstep w (Go.ConcN.RW.refl w)
      exact idle hgo (.d1 hg') rfl (by omega)
  | d2 hs =>
    rcases Goes.cases hs with hstop | ⟨m', rfl, hstep⟩
    · obtain ⟨_, hx⟩ := hstop w (Go.ConcN.RW.refl w)
      obtain ⟨hW3, hoth, e1, e2⟩ := hmode.isLast hi (by omega)
      rw [e1, e2, hst] at hwg
      obtain ⟨g', hgo, m₂, hk⟩ := hx (by simpa using hwg)
      refine wOut O ha h hcs hi hg hgo (.refl D.Wg w) hwg hwk (by omega) (q' := 0) (.d3 hk) (by omega) bk1 (by intro jx e he; rw [hde]; match jx, he with | 0, _ => exact .inr (by simp [deafBehind]) | jx + 1, he => simp at he) (by rw [hde]; rfl) (fun _ ht _ => Go.ConcN.Mode.retag ?_ ht) (.inl (by omega))
      have := Go.ConcN.Mode.last (j := s.j) (D := Go.ConcN.upd s.E i ⟨3, 0, 1⟩) (tag := tag) i hW3 hi (by rw [upd_same]; simp) (fun a ha e => by rw [upd_ne s.E _ e]; exact hoth a ha e)
      rw [upd_same] at this
      simpa using this
    · obtain ⟨g', w', es, hgo, ⟨rfl, rfl⟩, hg'⟩ := hstep w (Go.ConcN.RW.refl w)
      exact idle hgo (.d2 hg') rfl (by omega)
  | d3 hs =>
    rcases Goes.cases hs with hstop | ⟨m', rfl, hstep⟩
    · obtain ⟨_, hx⟩ := hstop w (Go.ConcN.RW.refl w)
      obtain ⟨hW3, hoth, e1, e2⟩ := hmode.isLast hi (by omega)
      rw [e1, e2, hst] at hwg
      obtain ⟨g', hgo, m₂, hk⟩ := hx (by simpa using hwg)
      refine wOut O ha h hcs hi hg hgo (aside_setCell w (stA D.Wg) _) (hwg.setSt 0) hwk (by omega) (q' := 0) (.d4 hk) (by omega) bkw (by intro jx e he; rw [hde]; match jx, he with | 0, _ => exact .inr (by simp [deafBehind]) | jx + 1, he => simp at he) (by rw [hde]; rfl) (fun _ ht _ => Go.ConcN.Mode.retag ?_ ht) (.inl (by omega))
      have := Go.ConcN.Mode.last (j := s.j) (D := Go.ConcN.upd s.E i ⟨2, 0, 1⟩) (tag := tag) i hW3 hi (by rw [upd_same]; simp) (fun a ha e => by rw [upd_ne s.E _ e]; exact hoth a ha e)
      rw [upd_same] at this
      simpa using this
    · obtain ⟨g', w', es, hgo, ⟨rfl, rfl⟩, hg'⟩ := hstep w (Go.ConcN.RW.refl w)
      exact idle hgo (.d3 hg') rfl (by omega)
  | d4 hs =>
    rcases Goes.cases hs with hstop | ⟨m', rfl, hstep⟩
    · obtain ⟨_, hmw, hx⟩ := hstop w (Go.ConcN.RW.refl w)
      obtain ⟨hW3, hoth, e1, e2⟩ := hmode.isLast hi (by omega)
      rw [e1, e2, hst] at hwg
      obtain ⟨g', hgo, q2, hq⟩ := hx (by simpa using hwg)
      have hrun' : g'.status = .running := by
        cases q2 with
        | zero => exact absurd hq.2 (by decide)
        | succ q => exact hq.elim (fun x => absurd x.2 (by decide)) (fun x => x.1)
      refine wOut O ha h hcs hi hg hgo (aside_setCell w (smA D.Wg) _) (hwg.setSm 1) hwk (by omega) (q' := 0) (.quit hq) (by omega) ?_ ?_ (by rw [hde]; simp [deafBehind, semEvents]) ?_ (.inl (by omega))
      · intro e he
        simp [semEvents] at he
        rcases he with rfl | rfl | rfl | rfl
        · exact .inl rfl
        · exact bk_cell _ _ rfl
        · exact bk_cell _ _ rfl
        · exact .inr (.inl rfl)
      · intro jx e he
        rw [hde]
        match jx, he with
        | 0, he => simp [semEvents] at he; subst he; exact .inl rfl
        | 1, _ => exact .inr (by simp [deafBehind, semEvents])
        | 2, _ => exact .inr (by simp [deafBehind, semEvents])
        | 3, he => simp [semEvents] at he; subst he; exact .inl rfl
        | jx + 4, he => simp [semEvents] at he
      · intro tag' ht hw
        have hnb := hw hmw hrun'
        have e3 : tag' = .w3 := by
          rcases ht with rfl | ⟨_, rfl⟩
          · cases tag' <;> first | rfl | exact hW3.elim | exact absurd rfl hnb
          · rfl
        subst e3
        simp only [if_true]
        exact .sema fun a ha => by
          by_cases e : a = i
          · subst e; rw [upd_same]
          · rw [upd_ne s.E _ e]; exact hoth a ha e
    · obtain ⟨g', w', es, hgo, ⟨rfl, rfl⟩, hg'⟩ := hstep w (Go.ConcN.RW.refl w)
      exact idle hgo (.d4 hg') rfl (by omega)
  | quit hs =>
    cases m with
    | zero => rw [hs.1] at hrun; cases hrun
    | succ q2 =>
      rcases hs with ⟨hf, _⟩ | ⟨_, g', es, hmute, hstep, hq⟩
      · rw [hf] at hrun; cases hrun
      · have hbk : ∀ e ∈ es, Bk D.Wg e := fun e he => bk_of_mute (hmute e he)
        have hno : ∀ jx e, es[jx]? = some e → (MemAct.ofEvent e).touch? = none ∨ 0 < deafBehind (s.E i).deaf (es.extract 0 jx) := fun jx e he => .inl (by
          rcases bk_of_mute (Wg := D.Wg) (hmute e (Array.mem_of_getElem? he)) with h1 | h1 | ⟨a, wr, rfl, _⟩
          · rw [ofEvent_loc_mark h1]; rfl
          · rw [ofEvent_loc_mark h1]; rfl
          · have := hmute _ (Array.mem_of_getElem? he); simp [Event.mute] at this)
        exact wOut O ha h hcs hi hg (hstep w) (.refl D.Wg w) hwg hwk (by omega) (q' := 0) (.quit hq) (by omega) hbk hno (by rw [hde]) (fun _ ht _ => (mode_same hmode ⟨1, 0, deafBehind dd es⟩ hst.symm).retag ht) (.inr ⟨hst.symm, by rw [hm]; exact dn_nat q2⟩)
end
end Go.Proofs.Ytgeflnjjppgooaa.Y

namespace Go.Proofs.Ytgeflnjjppgooaa.Y
open Go Go.Conc Go.RowKit Go.Proofs.Ytgeflnjjppgooaa Go.Proofs.Ytgeflnjjppgooaa.Q
open Go.ConcR (KK wgBlock WgAt stA smA rd wr mk Payload DC0 g_of_ofEvents Bk bk_of_mute ofEvent_loc_mark ofEvent_mk)
open Go.ConcN (get_map_set get_map_set_same WgLive PayAt Has RW DWs AtR0 WSit WD upd upd_same upd_ne CTag RelBy Vc Ssum cnt phi pend sumTo sumTo_upd sumTo_upd_out phi_mono phi_retag bk_cell isW3 OpenSt Vc_upd Vc_le others_uncounted le_sumTo Deaf_still Deaf_absent allQuit_of AllQuit)
section
variable {P : Program} {D : Sc} {K : Goroutine → World → Prop} {G0 : Nat} {Sh : Nat → Prop} {wb : World} {s : St} {gs : Array Goroutine} {w w' : World} {sl : Option (Nat × Nat)} {t : Trace} {tag tag' : CTag} {e e' d0 d' : Nat} {k k' : Rk} {a a' : Goroutine} {es : Array Event}
theorem callerStep (ha : gs[0]? = some a) (h : Com P D G0 Sh wb s gs w t d0) (hgo : stepG P true a w = .go a' w' es) {s' : St} (h' : Com P D G0 Sh wb s' ((gs.map (woken P a a' w')).setIfInBounds 0 a') w' (t ++ MemOp.ofEvents 0 a.frame.fn a.frame.place es) d')
    (hj : s'.j = s.j) (hE : s'.E = s.E) (hwk : s'.wk = s.wk) (hF : s'.F = s.F) (hcs' : CSitM P D K tag' s.j e' k' d' a' (s'.V 0) w') (hmode : Go.ConcN.Mode s.j s.E tag' s'.st s'.sm)
    (hlt : phi D.n (Vc s.j s.E) tag' + e' < phi D.n (Vc s.j s.E) tag + e ∨ (phi D.n (Vc s.j s.E) tag' + e' = phi D.n (Vc s.j s.E) tag + e ∧ Dn k' k)) : Falls P D K G0 Sh wb gs w sl t 0 (mu D s tag e k) := by
  have g0 := h.g0
  have hrun := runT_crowd_go (P := P) (sl := sl) (i := 0) ha (by simpa using hgo)
  refine ⟨_, _, mu D s' tag' e' k', hrun, ?_, s', _, w', sl, tag', e', k', d', a', rfl, get_map_set_same _ _ _ (by rw [h.size]; omega), by rw [hj]; exact hcs', h', by rw [hj, hE]; exact hmode, rfl⟩
  simp only [mu, hj, hE, hwk, hF]
  rcases hlt with h1 | ⟨h1, h2⟩
  · exact Lt.num (by omega)
  · rw [show phi D.n (Vc s.j s.E) tag' + Ssum s.j s.E + sumTo s.j (fun i => bit (s.wk i)) + e' = phi D.n (Vc s.j s.E) tag + Ssum s.j s.E + sumTo s.j (fun i => bit (s.wk i)) + e by omega]
    exact Lt.own h2
/-- A step of the library's. -/
theorem cBook (O : PhOk D) (ha : gs[0]? = some a) (h : Com P D G0 Sh wb s gs w t d0) (hgo : stepG P true a w = .go a' w' es) {st' sm' : Int} (hA : Go.Conc.Aside D.Wg w w') (hw : WgAt D.ty D.Wg w' st' sm') (he : ∀ e ∈ es, EvS D 0 e)
    (hd : deafBehind d0 es = d') (hcs' : CSitM P D K tag' s.j e' k' d' a' (s.V 0) w') (hmode : Go.ConcN.Mode s.j s.E tag' st' sm')
    (hlt : phi D.n (Vc s.j s.E) tag' + e' < phi D.n (Vc s.j s.E) tag + e ∨ (phi D.n (Vc s.j s.E) tag' + e' = phi D.n (Vc s.j s.E) tag + e ∧ Dn k' k)) : Falls P D K G0 Sh wb gs w sl t 0 (mu D s tag e k) := by
  subst hd
  have hti := h.tiS (w' := w') (fn := a.frame.fn) (pos := a.frame.place) O (.inl rfl) hA.size he (.inl rfl)
  have hWI := wi_wg h O hA hw
  have h2 := h.caller O (a := a) (a' := a') (vi_wg h hA hw) hWI (fun y _ => up_ext _ _) (hti.weak (fun y b hr => rd_up.1 hr) (fun y ad hr => wr_up.1 hr) fun _ => id) (fun x hx => (he x hx).2.1)
  exact callerStep ha h hgo h2 rfl rfl rfl rfl (hcs'.rely (up_ext _ _) (rl_refl w')) hmode hlt
/-- .. that turns nothing. -/
theorem cIdle (O : PhOk D) (ha : gs[0]? = some a) (h : Com P D G0 Sh wb s gs w t d0) (hgo : stepG P true a w = .go a' w #[]) (hcs' : CSitM P D K tag' s.j e' k' d0 a' (s.V 0) w) (hmode : Go.ConcN.Mode s.j s.E tag' s.st s.sm)
    (hlt : phi D.n (Vc s.j s.E) tag' + e' < phi D.n (Vc s.j s.E) tag + e ∨ (phi D.n (Vc s.j s.E) tag' + e' = phi D.n (Vc s.j s.E) tag + e ∧ Dn k' k)) : Falls P D K G0 Sh wb gs w sl t 0 (mu D s tag e k) :=
  cBook O ha h hgo (.refl D.Wg w) h.wi.wg (by simp) rfl hcs' hmode hlt
/-- A step in its view. -/
theorem cView (O : PhOk D) (ha : gs[0]? = some a) (h : Com P D G0 Sh wb s gs w t d0) {v' : World} (hs : StepTo P true a (s.V 0) a' v') (hmode : Go.ConcN.Mode s.j s.E tag' s.st s.sm)
    (hcs' : ∀ w', CSitM P D K tag' s.j e' k' d0 a' v' w')
    (hlt : phi D.n (Vc s.j s.E) tag' + e' < phi D.n (Vc s.j s.E) tag + e ∨ (phi D.n (Vc s.j s.E) tag' + e' = phi D.n (Vc s.j s.E) tag + e ∧ Dn k' k)) : Falls P D K G0 Sh wb gs w sl t 0 (mu D s tag e k) := by
  obtain ⟨w', es, hgo, hc, he⟩ := hs w (h.vi.view 0 (by omega))
  have hVI := h.vi.step (x := 0) (by omega) hc (h.badlt O) h.wi.size
  have hWI := h.wi.step O h.vi (fun b hb => hb.elim .inl fun hb => .inr (.inl hb)) (y := 0) (by omega) hc
  have hti := h.tiV (fn := a.frame.fn) (pos := a.frame.place) O (x := 0) (by omega) (fun i' e => by omega) hc he
  have h2 := h.caller O (a := a) (a' := a') hVI hWI (fun y _ => by simp only [if_neg (show y + 1 ≠ 0 by omega)]; exact up_ext _ _) hti (fun x hx => (evok_mark (he x hx)).2.2)
  rw [deafBehind_still (fun x hx => ⟨(evok_mark (he x hx)).1, (evok_mark (he x hx)).2.1⟩)] at h2
  exact callerStep ha h hgo h2 rfl rfl rfl rfl (by simp only [if_true]; exact hcs' w') hmode hlt
theorem Com.spawn (h : Com P D G0 Sh wb s gs w t 0) {child : Goroutine} {fn fn' : FuncId} {pos pos' : String} {r : Rk} (hw : GoW P D s.j r [] child (frz (s.V 0))) :
    Com P D G0 Sh wb { s with j := s.j + 1, V := fun y => if y = 0 ∨ y = s.j + 1 then frz (s.V 0) else s.V y, E := Go.ConcN.upd s.E s.j ⟨7, 0, 0⟩, wk := Go.ConcN.upd s.wk s.j true, σ := Go.ConcN.upd s.σ s.j [], F := Go.ConcN.upd s.F (G0 + s.j) r } ((gs.setIfInBounds 0 a').push child) w
      (t ++ #[{ g := 0, fn := fn, pos := pos, act := .go (G0 + s.j) }, { g := G0 + s.j, fn := fn', pos := pos', act := .start }]) 0 := by
  have g0 := h.g0
  have hsz := h.size
  have hst : ∀ op ∈ (#[{ g := 0, fn := fn, pos := pos, act := .go (G0 + s.j) }, { g := G0 + s.j, fn := fn', pos := pos', act := .start }] : Array MemOp), op.act ≠ .mark .disable ∧ op.act ≠ .mark .enable ∧ (∀ ad, op.act ≠ .mark (.release ad)) ∧ (op.g = 0 ∨ op.g = G0 + s.j) := by
    intro op hop
    simp at hop
    rcases hop with rfl | rfl <;> simp
  have hdf : ∀ y, Deaf (t ++ #[{ g := 0, fn := fn, pos := pos, act := .go (G0 + s.j) }, { g := G0 + s.j, fn := fn', pos := pos', act := .start }]) y = Deaf t y := fun y => Deaf_still t y _ fun op hop => ⟨(hst op hop).1, (hst op hop).2.1⟩
  have hab : Deaf t (G0 + s.j) = 0 := h.above (Nat.le_refl _)
  have getO : ∀ y, 0 < y → y < gs.size → ((gs.setIfInBounds 0 a').push child)[y]? = gs[y]? := fun y h1 h2 => by
    rw [Array.getElem?_push_lt (by simpa using h2), ← Array.getElem?_eq_getElem, Array.getElem?_setIfInBounds_ne (by omega)]
  refine ⟨g0, by simp [hsz]; omega, fun y g hy hyG hg => ?_, fun i hi => ?_, ?_, ?_, ?_, fun ad => (h.norel ad).app fun op hop => (hst op hop).2.2.1 ad, by rw [hdf, h.deaf0], fun i hi => ?_, fun i hi hs6 => ?_, fun i hi => ?_, fun i hi hwf => ?_, h.shb, h.shA⟩
  · rw [getO y hy (by omega)] at hg
    obtain ⟨q, h1, h2⟩ := h.old y g hy hyG hg
    exact ⟨q, (upd_ne s.F _ (by omega)).trans h1, by rw [hdf]; exact h2⟩
  · by_cases ei : i = s.j
    · subst ei
      refine ⟨child, ?_, ?_⟩
      · rw [show G0 + s.j = (gs.setIfInBounds 0 a').size by simp [hsz], Array.getElem?_push_size]
      · simp only [upd_same]
        exact .inl ⟨rfl, rfl, rfl, by simp only [or_true, if_true]; exact hw⟩
    · obtain ⟨g, hg, hs⟩ := h.wks i (by simp only at hi; omega)
      refine ⟨g, by rw [getO _ (by omega) (by simp only at hi; omega)]; exact hg, ?_⟩
      have e2 : G0 + i ≠ G0 + s.j := by omega
      have e3 : ¬ (i + 1 = 0 ∨ i + 1 = s.j + 1) := by omega
      simp only [upd_ne s.wk _ ei, upd_ne s.E _ ei, upd_ne s.σ _ ei, upd_ne s.F _ e2, if_neg e3]
      exact hs
  · refine ⟨fun y hy => ?_, fun y z hy hz hne b hl hr => ?_, fun y hy b hb hr => ?_, fun y hy b hb hl => ?_⟩
    · by_cases c : y = 0 ∨ y = s.j + 1
      · simp only [if_pos c]; exact view_frz (h.vi.view 0 (by omega))
      · simp only [if_neg c]; exact h.vi.view y (by simp only at hy; omega)
    · by_cases c : y = 0 ∨ y = s.j + 1
      · simp only [if_pos c] at hl; exact not_liv_frz hl
      · simp only [if_neg c] at hl
        by_cases c2 : z = 0 ∨ z = s.j + 1
        · simp only [if_pos c2, rdb_frz] at hr
          exact h.vi.ex y 0 (by simp only at hy; omega) (by omega) (by omega) b hl hr
        · simp only [if_neg c2] at hr
          exact h.vi.ex y z (by simp only at hy; omega) (by simp only at hz; omega) hne b hl hr
    · by_cases c : y = 0 ∨ y = s.j + 1
      · simp only [if_pos c, rdb_frz] at hr; exact h.vi.bad 0 (by omega) b hb hr
      · simp only [if_neg c] at hr; exact h.vi.bad y (by simp only at hy; omega) b hb hr
    · by_cases c : y = 0 ∨ y = s.j + 1
      · simp only [if_pos c] at hl; exact not_liv_frz hl
      · simp only [if_neg c] at hl; exact h.vi.low y (by simp only at hy; omega) b hb hl
  · refine ⟨h.wi.wg, h.wi.arrs, fun i hi p hp => ?_, h.wi.old, h.wi.tape, h.wi.os, h.wi.output, h.wi.size, h.wi.wgB, h.wi.pay⟩
    by_cases ei : i = s.j
    · subst ei; simp only [upd_same] at hp; cases hp
    · simp only [upd_ne s.σ _ ei] at hp; exact h.wi.sig i (by simp only at hi; omega) p hp
  · refine h.ti.fork ⟨rfl, rfl⟩ ⟨rfl, rfl⟩ (by omega) h.deaf0 hab (fun z b hr => ?_) (fun z ad hr => ?_) (fun z hz => ?_)
    · rcases hr with ⟨rfl, hr⟩ | ⟨i, hi, rfl, hwk, hr⟩
      · simp only [true_or, if_true, rdb_frz] at hr
        exact .inl (.inl ⟨rfl, hr⟩)
      · by_cases ei : i = s.j
        · subst ei
          simp only [or_true, if_true, rdb_frz] at hr
          exact .inr ⟨rfl, .inl ⟨rfl, hr⟩⟩
        · have e3 : ¬ (i + 1 = 0 ∨ i + 1 = s.j + 1) := by omega
          simp only [if_neg e3] at hr
          simp only [upd_ne s.wk _ ei] at hwk
          exact .inl (.inr ⟨i, by simp only at hi; omega, rfl, hwk, hr⟩)
    · rcases hr with ⟨rfl, hr | ⟨i, hi, hr⟩⟩ | ⟨i, hi, rfl, hwk, hr⟩
      · simp only [true_or, if_true] at hr
        exact absurd hr not_liv_frz
      · exact .inl (.inl ⟨rfl, .inr ⟨i, by simp only at hi; omega, hr⟩⟩)
      · by_cases ei : i = s.j
        · subst ei
          simp only [or_true, if_true] at hr
          rcases hr with hr | hr
          · exact absurd hr not_liv_frz
          · exact .inr ⟨rfl, .inl ⟨rfl, .inr ⟨s.j, Nat.le_refl _, hr⟩⟩⟩
        · have e3 : ¬ (i + 1 = 0 ∨ i + 1 = s.j + 1) := by omega
          simp only [if_neg e3] at hr
          simp only [upd_ne s.wk _ ei] at hwk
          exact .inl (.inr ⟨i, by simp only at hi; omega, rfl, hwk, hr⟩)
    · rcases hz with rfl | ⟨i, hi, rfl⟩
      · exact .inl (.inl rfl)
      · by_cases ei : i = s.j
        · subst ei; exact .inr ⟨rfl, .inl rfl⟩
        · exact .inl (.inr ⟨i, by simp only at hi; omega, rfl⟩)
  · rw [hdf]
    by_cases ei : i = s.j
    · subst ei; simp only [upd_same]; exact hab
    · simp only [upd_ne s.E _ ei]; exact h.deafW i (by simp only at hi; omega)
  · by_cases ei : i = s.j
    · subst ei; simp only [upd_same] at hs6; omega
    · simp only [upd_ne s.E _ ei] at hs6
      have hij : i < s.j := by simp only at hi; omega
      obtain ⟨r, h1, h2⟩ := h.rel i hij hs6
      exact ⟨r, h1, h2.appNot fun op hop => by rcases (hst op hop).2.2.2 with e | e <;> omega⟩
  · by_cases ei : i = s.j
    · subst ei; exact h.reln s.j fun h => by omega
    · simp only [upd_ne s.E _ ei] at hi
      exact h.reln i fun h1 => hi (by omega)
  · by_cases ei : i = s.j
    · subst ei; simp only [upd_same] at hwf; cases hwf
    · have e3 : ¬ (i + 1 = 0 ∨ i + 1 = s.j + 1) := by omega
      simp only [upd_ne s.wk _ ei] at hwf
      simp only [upd_ne s.σ _ ei, if_neg e3]
      exact h.fin i (by simp only at hi; omega) hwf
end
end Go.Proofs.Ytgeflnjjppgooaa.Y

namespace Go.Proofs.Ytgeflnjjppgooaa.Y
open Go Go.Conc Go.RowKit Go.Proofs.Ytgeflnjjppgooaa Go.Proofs.Ytgeflnjjppgooaa.Q
open Go.ConcR (KK wgBlock WgAt stA smA rd wr mk Payload DC0 g_of_ofEvents Bk bk_of_mute ofEvent_loc_mark ofEvent_mk)
open Go.ConcN (get_map_set get_map_set_same WgLive PayAt Has RW DWs AtR0 WSit WD upd upd_same upd_ne CTag RelBy Vc Ssum cnt phi pend sumTo sumTo_upd sumTo_upd_out phi_mono phi_retag bk_cell isW3 OpenSt Vc_upd Vc_le others_uncounted le_sumTo Deaf_still Deaf_absent allQuit_of AllQuit)
def RdF (v : World) (y b : Nat) : Prop := y = 0 ∧ Rdb v b
def WrF (v : World) (y : Nat) (ad : Addr) : Prop := y = 0 ∧ Liv v ad.block
/-- Goroutine 0 alone among leavers: it stands at a, and sees v. -/
structure Frame (P : Program) (Sh : Nat → Prop) (gs : Array Goroutine) (w : World) (t : Trace) (a : Goroutine) (v : World) : Prop where
  a : gs[0]? = some a
  view : View v w
  old : ∀ y g, 0 < y → gs[y]? = some g → ∃ q, QuitsD P q (Deaf t y) g
  ti : TI Sh (RdF v) (WrF v) (fun y => y = 0) (fun _ => none) (gs.size - 1) w.heap.size gs.size t
  dead : ∀ b, Sh b → ¬ Rdb v b
  shb : ∀ b, Sh b → b < w.heap.size
  deaf0 : Deaf t 0 = 0
  norel : ∀ a, NoRelease a t
/-- What may have turned since. -/
structure Since (v w : World) (Sh : Nat → Prop) (v' w' : World) (Sh' : Nat → Prop) : Prop where
  size : v.heap.size ≤ v'.heap.size
  keep : ∀ b, b < v.heap.size → ¬ Liv v b → w'.heap[b]? = w.heap[b]?
  liv : ∀ b, b < v.heap.size → Liv v b → Liv v' b ∨ Sh' b
  back : ∀ b, b < v.heap.size → (Liv v' b → Liv v b) ∧ (Sh' b → Sh b ∨ Liv v b)
  sh : ∀ b, Sh b → Sh' b
def Done (P : Program) (K : Goroutine → World → Prop) (v0 w0 : World) (Sh0 : Nat → Prop) (m : Machine) (t : Trace) : Prop := ∃ gs w sl a v Sh, m = crowd gs w sl ∧ Frame P Sh gs w t a v ∧ K a v ∧ Since v0 w0 Sh0 v w Sh
def selfO (b : Nat) : Obj → Obj
  | .view _ _ => .view ⟨b, 0, none⟩ 0
  | o => o
theorem br_self (b : Nat) (o : Obj) : BR b (some (selfO b o)) (some o) := by
  cases o <;> first | exact .view | exact .same (fun a t h => by cases h)
/-- What goroutine 0 sees behind the join. -/
def joinV (D : Sc) (w : World) : World := { w with heap := w.heap.mapIdx fun b o => if D.arr b = true then o else if b = D.Wg then killO o else match D.vb.heap[b]? with | some x => x | none => selfO b o }
theorem joinV_get (D : Sc) (w : World) (b : Nat) : (joinV D w).heap[b]? = (w.heap[b]?).map fun o => if D.arr b = true then o else if b = D.Wg then killO o else match D.vb.heap[b]? with | some x => x | none => selfO b o := by simp [joinV]
section
variable {P : Program} {D : Sc} {K : Goroutine → World → Prop} {G0 : Nat} {Sh : Nat → Prop} {wb : World} {s : St} {gs : Array Goroutine} {w w' : World} {sl : Option (Nat × Nat)} {t : Trace} {tag tag' : CTag} {e e' d0 d' : Nat} {k k' : Rk} {a a' : Goroutine} {es : Array Event}
theorem joinV_view (O : PhOk D) (hwi : WI D wb s.j s.σ s.st s.sm w) (hb : View D.vb wb) : View (joinV D w) w := by
  refine ⟨rfl, by simp [joinV], fun b => ?_⟩
  rw [joinV_get]
  cases hw : w.heap[b]? with
  | none => exact .same (fun a t h => by cases h)
  | some o =>
    simp only [Option.map_some]
    split
    · rename_i ha
      obtain ⟨_, c, ty, h1⟩ := O.arr b ha
      obtain ⟨d', h2, _⟩ := hwi.arrs b c ty _ ha h1
      rw [hw] at h2; cases h2
      exact .same (fun a t h => by cases h)
    · split
      · rename_i _ hW
        subst hW
        have := hwi.wg
        unfold WgAt wgBlock at this
        rw [hw] at this; cases this
        exact .dead
      · rename_i ha hW
        cases hv : D.vb.heap[b]? with
        | none => exact br_self b o
        | some x =>
          have hlt := (Array.getElem?_eq_some_iff.1 hv).1
          have h1 := hb.blk b
          rw [hv, ← hwi.old b hlt hW (by simpa using ha), hw] at h1
          exact h1
theorem joinV_join (O : PhOk D) (h : Com P D G0 Sh wb s gs w t d0) (hb : View D.vb wb) (hn : s.j = D.n) (hq : AllQuit s.j s.E) : Join D (joinV D w) := by
  have hbr := hb.rest
  have hwk : ∀ i, i < s.j → s.wk i = false := fun i hi => by
    cases hw : s.wk i with
    | false => rfl
    | true => have := (h.atWork hi hw).1; have := hq i hi; omega
  refine ⟨?_, ?_, ?_, ?_, fun b h1 h2 h3 => ?_, fun b c ty z h1 h2 => ?_, fun i hi => ⟨s.σ i, s.V (i + 1), h.fin i (by omega) (hwk i (by omega)), fun b hl => ?_, fun p hp => ?_⟩⟩
  · show w.tape = _; rw [h.wi.tape, hbr]
  · show w.os = _; rw [h.wi.os, hbr]
  · show w.output = _; rw [h.wi.output, hbr]
  · simp only [joinV, Array.size_mapIdx]; exact h.wi.size
  · rw [joinV_get, Array.getElem?_eq_getElem (show b < w.heap.size by have := h.wi.size; omega)]
    simp only [Option.map_some, h3, Bool.false_eq_true, if_false, if_neg h2, Array.getElem?_eq_getElem h1]
  · obtain ⟨d', h3, h4⟩ := h.wi.arrs b c ty z h1 h2
    exact ⟨d', by rw [joinV_get, h3]; simp [h1], h4⟩
  · have hx : i + 1 ≤ s.j := by omega
    have hB : D.vb.heap.size ≤ b := Nat.le_of_not_lt fun hlt => h.vi.low (i + 1) hx b hlt hl
    have hna : D.arr b = false := by
      cases ha : D.arr b with
      | false => rfl
      | true => exact absurd hl.rdb (h.vi.bad (i + 1) hx b (.inr (.inl ha)))
    have hnW : b ≠ D.Wg := fun e => h.vi.bad (i + 1) hx b (.inl e) hl.rdb
    obtain ⟨c, ty, z, e1, e2, e3⟩ := hl
    have hbk := (h.vi.view (i + 1) hx).blk b
    rw [e1] at hbk
    generalize hwb : w.heap[b]? = y at hbk
    rw [joinV_get, hwb, e1]
    cases hbk with
    | same _ => simp [hna, hnW, Array.getElem?_eq_none hB, selfO]
    | dead => exact absurd rfl e2
    | fro => exact absurd rfl e3
  · obtain ⟨h1, h2⟩ := h.wi.sig i (by omega) p hp
    rw [← h2]
    refine cell_same ?_
    rw [joinV_get]
    cases hw : w.heap[p.1.block]? with
    | none => rfl
    | some o => simp [(O.own i _ h1).1]
theorem joinV_since (O : PhOk D) (h : Com P D G0 Sh wb s gs w t d0) (hdead : ∀ b, ShW D Sh b → ¬ Rdb (joinV D w) b) : Since D.vb wb Sh (joinV D w) w (ShW D Sh) := by
  have hWl : Liv D.vb D.Wg := ⟨_, _, _, O.wg, by simp, by simp⟩
  have other : ∀ b, b < D.vb.heap.size → b ≠ D.Wg → D.arr b = false → (joinV D w).heap[b]? = D.vb.heap[b]? := fun b h1 h2 h3 => by
    rw [joinV_get, Array.getElem?_eq_getElem (show b < w.heap.size by have := h.wi.size; omega)]
    simp only [Option.map_some, h3, Bool.false_eq_true, if_false, if_neg h2, Array.getElem?_eq_getElem h1]
  have arrl : ∀ b, D.arr b = true → Liv (joinV D w) b := fun b hb => by
    obtain ⟨_, c, ty, h1⟩ := O.arr b hb
    obtain ⟨c2, ty2, z2, h2, h3, _⟩ := O.arr0 b hb
    rw [h1] at h2; cases h2
    obtain ⟨d', h4, h5⟩ := h.wi.arrs b c ty _ hb h1
    have hne : d'.size ≠ 0 := fun e => h3 (Array.eq_empty_of_size_eq_zero (h5.symm.trans e))
    refine ⟨d', ty, (0, 0), by rw [joinV_get, h4]; simp [hb], ?_, ?_⟩
    · rintro rfl; simp at hne
    · intro e; exact hne (congrArg Prod.snd e).symm
  refine ⟨by simp only [joinV, Array.size_mapIdx]; exact h.wi.size, fun b hb hn => ?_, fun b hb hl => ?_, fun b hb => ⟨fun hl => ?_, fun hs => ?_⟩, fun b hb => .inr hb⟩
  · refine h.wi.old b hb (fun e => hn (e ▸ hWl)) ?_
    cases ha : D.arr b with
    | false => rfl
    | true => exact absurd (O.arr0 b ha) hn
  · by_cases e : b = D.Wg
    · exact .inr (.inl e)
    · cases ha : D.arr b with
      | true => exact .inl (arrl b ha)
      | false => exact .inl ((liv_of_eq (other b hb e ha)).2 hl)
  · by_cases e : b = D.Wg
    · exact absurd hl.rdb (hdead b (.inl e))
    · cases ha : D.arr b with
      | true => exact O.arr0 b ha
      | false => exact (liv_of_eq (other b hb e ha)).1 hl
  · rcases hs with rfl | hs
    · exact .inr hWl
    · exact .inl hs
/-- THE JOIN. -/
theorem joined (O : PhOk D) (h : Com P D G0 Sh wb s gs w t 0) (hb : View D.vb wb) (hsd : ∀ b, Sh b → ¬ Rdb D.vb b) (hn : s.j = D.n) (hq : AllQuit s.j s.E) (hK : ∀ v', Join D v' → K a' v') :
    Done P K D.vb wb Sh (crowd ((gs.map (woken P a a' w)).setIfInBounds 0 a') w sl) (t ++ MemOp.ofEvents 0 a.frame.fn a.frame.place #[mk (.acquire (stA D.Wg))]) := by
  have g0 := h.g0
  have hview := joinV_view (s := s) O h.wi hb
  have e1 : MemOp.ofEvents 0 a.frame.fn a.frame.place #[mk (.acquire (stA D.Wg))] = #[{ g := 0, fn := a.frame.fn, pos := a.frame.place, act := .mark (.acquire (stA D.Wg)) }] := by rw [ofEvents_eq]; simp [ofEvent_mk]
  have hy : (t ++ #[({ g := 0, fn := a.frame.fn, pos := a.frame.place, act := .mark (.acquire (stA D.Wg)) } : MemOp)])[t.size]? = some { g := 0, fn := a.frame.fn, pos := a.frame.place, act := .mark (.acquire (stA D.Wg)) } := by simp
  have hEv : ∀ x ∈ #[mk (.acquire (stA D.Wg))], EvS D 0 x := by
    intro x hx
    simp at hx; subst hx
    exact evS_mk (by simp) (by show D.Wg < _; omega) rfl
  have hti := h.tiS (w' := w) (fn := a.frame.fn) (pos := a.frame.place) O (.inl rfl) rfl hEv (.inl rfl)
  have hnr : ∀ ad, NoRelease ad (t ++ MemOp.ofEvents 0 a.frame.fn a.frame.place #[mk (.acquire (stA D.Wg))]) := fun ad => (h.norel ad).app (norelA fun x hx => (hEv x hx).2.1)
  have hrel : ∀ i, i < s.j → ∃ r, s.rel (G0 + i) = some r ∧ RelBy (stA D.Wg) t (G0 + i) r := fun i hi => h.rel i hi (by rw [hq i hi]; omega)
  have hall := hti.join (a := stA D.Wg) (q := t.size) (by rw [e1, act?_of hy]) (by rw [e1]; simp [Trace.g?]) (by rw [e1]; exact ⟨0, by simp [Trace.g?], by rw [deaf_old (Nat.le_refl _)]; exact h.deaf0⟩) (hnr _) (fun x i hx hg => by
    obtain ⟨z, hz, hzg⟩ := Option.map_eq_some_iff.1 hg
    have hlt := hti.gs z (Array.mem_of_getElem? hz)
    obtain ⟨i', rfl⟩ : ∃ i', x = G0 + i' := ⟨x - G0, by omega⟩
    obtain ⟨r, h1, h2⟩ := hrel i' (by omega)
    exact ⟨r, h1, h2.appOther ops_g (by omega), lt_of_act? h2.act⟩)
  have hdead : ∀ b, ShW D Sh b → ¬ Rdb (joinV D w) b := by
    rintro b hs ⟨c, ty, z, h1, h2⟩
    rw [joinV_get] at h1
    obtain ⟨o, ho, h3⟩ := Option.map_eq_some_iff.1 h1
    rcases hs with rfl | hs
    · have hna : D.arr D.Wg = false := by
        cases hx : D.arr D.Wg with
        | false => rfl
        | true => exact absurd rfl (O.arr _ hx).1
      simp only [hna, Bool.false_eq_true, if_false, if_true] at h3
      cases o <;> simp [killO] at h3
      exact absurd h3.1 h2
    · have hna := h.shA b hs
      have hlt := h.shb b hs
      simp only [hna, Bool.false_eq_true, if_false] at h3
      split at h3
      · cases o <;> simp [killO] at h3
        exact absurd h3.1 h2
      · rw [Array.getElem?_eq_getElem hlt] at h3
        exact hsd b hs ⟨c, ty, z, by rw [Array.getElem?_eq_getElem hlt, ← h3], h2⟩
  have hsz : ((gs.map (woken P a a' w)).setIfInBounds 0 a').size = G0 + s.j := by simp [h.size]
  refine ⟨_, w, sl, a', joinV D w, ShW D Sh, rfl, ⟨get_map_set_same _ _ _ (by rw [h.size]; omega), hview, fun y g hy hg => ?_, ?_, hdead, fun b hs => h.badlt O b (hs.imp id .inr), ?_, hnr⟩, hK _ (joinV_join O h hb hn hq), joinV_since O h hdead⟩
  · rw [get_map_set _ _ _ _ (by omega)] at hg
    obtain ⟨z, hz, rfl⟩ := Option.map_eq_some_iff.1 hg
    have hlt : y < G0 + s.j := by have := (Array.getElem?_eq_some_iff.1 hz).1; rw [h.size] at this; exact this
    rw [Deaf_other t (by omega) _ ops_g]
    rcases Nat.lt_or_ge y G0 with h1 | h1
    · obtain ⟨q, _, h2⟩ := h.old y z hy h1 hz
      exact ⟨q, by rw [woken_quitsD h2]; exact h2⟩
    · obtain ⟨i, rfl⟩ : ∃ i, y = G0 + i := ⟨y - G0, by omega⟩
      have hi : i < s.j := by omega
      obtain ⟨z', hz', hs⟩ := h.wks i hi
      rw [hz] at hz'; cases hz'
      have hq1 := hq i hi
      rw [h.deafW i hi]
      have hqq : ∃ q, QuitsD P q (s.E i).deaf z := by
        letI := D.pay
        rcases hs with ⟨_, h7, _⟩ | ⟨_, m, _, ⟨h7, _⟩ | ⟨_, hs⟩⟩
        · omega
        · omega
        · exact ⟨m, hs.quits hq1⟩
      obtain ⟨q, hqq⟩ := hqq
      exact ⟨q, by rw [woken_quitsD hqq]; exact hqq⟩
  · rw [hsz]
    exact hti.rest hall (fun y b hr => ⟨hr.1, fun hs => hdead b hs hr.2⟩) (fun y ad hr => ⟨hr.1, fun hs => hdead _ hs hr.2.rdb⟩) (fun y hy => .inl hy)
  · rw [Deaf_own, h.deaf0]; rfl
end
end Go.Proofs.Ytgeflnjjppgooaa.Y

namespace Go.Proofs.Ytgeflnjjppgooaa.Y
open Go Go.Conc Go.RowKit Go.Proofs.Ytgeflnjjppgooaa Go.Proofs.Ytgeflnjjppgooaa.Q
open Go.ConcR (KK wgBlock WgAt stA smA rd wr mk Payload DC0 g_of_ofEvents Bk bk_of_mute ofEvent_loc_mark ofEvent_mk)
open Go.ConcN (get_map_set get_map_set_same WgLive PayAt Has RW DWs AtR0 WSit WD upd upd_same upd_ne CTag RelBy Vc Ssum cnt phi pend sumTo sumTo_upd sumTo_upd_out phi_mono phi_retag bk_cell isW3 OpenSt Vc_upd Vc_le others_uncounted le_sumTo Deaf_still Deaf_absent allQuit_of AllQuit exists_counted isOpen)
section
variable {P : Program} {D : Sc} {K : Goroutine → World → Prop} {G0 : Nat} {Sh : Nat → Prop} {wb : World} {s : St} {gs : Array Goroutine} {w w' : World} {sl : Option (Nat × Nat)} {t : Trace} {tag tag' : CTag} {e e' d0 d' : Nat} {k k' : Rk} {a a' : Goroutine} {es : Array Event}
theorem evS1 {m : Mark} (h : m = .disable ∨ m = .enable) : ∀ x ∈ #[mk m], EvS D 0 x := by
  intro x hx
  simp at hx; subst hx
  rcases h with rfl | rfl <;> exact evS_mk (by simp) trivial rfl
theorem evSr : ∀ x ∈ #[rd (stA D.Wg)], EvS D 0 x := by
  intro x hx
  simp at hx; subst hx
  exact evS_at _ _ rfl
theorem evSrw : ∀ x ∈ #[rd (stA D.Wg), wr (stA D.Wg)], EvS D 0 x := by
  intro x hx
  simp at hx
  rcases hx with rfl | rfl <;> exact evS_at _ _ rfl
theorem evSsaid {m : Mark} (h : m = .read (smA D.Wg) ∨ m = .write (smA D.Wg)) : ∀ x ∈ #[mk m], EvS D 0 x := by
  intro x hx
  simp at hx; subst hx
  exact evS_said (smA D.Wg) rfl rfl m h
/-- At the call of Add. -/
theorem cKd (O : PhOk D) (ha : gs[0]? = some a) (h : Com P D G0 Sh wb s gs w t 0) (hmode : Go.ConcN.Mode s.j s.E tag s.st s.sm) {r m : Nat} {vs : World} (hr : r < D.n) (hj : s.j = D.n - (r + 1)) (hx : Ext vs (s.V 0)) (hg : Goes P true (RL D.ty D.Wg) DC0 (LKd P D.ty D.Wg (AftA P D K r vs)) m a w)
    (ht : tag = .sp (r + 1) 6 ∨ (tag = .sp (r + 1) 5 ∧ e = 0 ∧ k = nat m)) : Falls P D K G0 Sh wb gs w sl t 0 (mu D s tag e k) := by
  have ho : isOpen tag := by rcases ht with rfl | ⟨rfl, _⟩ <;> trivial
  have hp : pend tag = 0 := by rcases ht with rfl | ⟨rfl, _⟩ <;> rfl
  have hphi : phi D.n (Vc s.j s.E) tag = 8 * D.n + 16 + 16 * (r + 1) + 6 ∨ phi D.n (Vc s.j s.E) tag = 8 * D.n + 16 + 16 * (r + 1) + 5 := by rcases ht with rfl | ⟨rfl, _⟩ <;> simp [phi]
  rcases Goes.cases hg with hstop | ⟨m', rfl, hstep⟩
  · obtain ⟨_, a', hgo, m₂, hk⟩ := hstop w (rl_refl w)
    refine cBook O ha h hgo (.refl D.Wg w) h.wi.wg (evS1 (.inl rfl)) rfl (tag' := .sp (r + 1) 4) (e' := 0) (k' := nat m₂) (by rw [hj]; exact .s4 hr hx hk) (hmode.reopen ho trivial (by rw [hp]; rfl) (by simp)) (.inl ?_)
    rcases hphi with e1 | e1 <;> rw [e1] <;> simp only [phi] <;> omega
  · obtain ⟨a', w', es, hgo, ⟨rfl, rfl⟩, hg'⟩ := hstep w (rl_refl w)
    refine cIdle O ha h hgo (tag' := .sp (r + 1) 5) (e' := 0) (k' := nat m') (by rw [hj]; exact .s5 hr hx hg') (hmode.reopen ho trivial (by rw [hp]; rfl) (by simp)) ?_
    rcases ht with rfl | ⟨rfl, rfl, rfl⟩
    · exact .inl (by simp only [phi]; omega)
    · exact .inr ⟨rfl, dn_nat m'⟩
/-- At the call of Wait. -/
theorem cKdW (O : PhOk D) (ha : gs[0]? = some a) (h : Com P D G0 Sh wb s gs w t 0) (hmode : Go.ConcN.Mode s.j s.E tag s.st s.sm) {m : Nat} {A : Goroutine → World → Prop} (hA : AOk P D K A) (hj : s.j = D.n) (hg : Goes P true (RL D.ty D.Wg) DC0 (LKdW P D.ty D.Wg A) m a w)
    (ht : tag = .sp 0 6 ∨ (tag = .kd ∧ e = 0 ∧ k = nat m)) : Falls P D K G0 Sh wb gs w sl t 0 (mu D s tag e k) := by
  have ho : isOpen tag := by rcases ht with rfl | ⟨rfl, _⟩ <;> trivial
  have hp : pend tag = 0 := by rcases ht with rfl | ⟨rfl, _⟩ <;> rfl
  have hv := Vc_le s.j s.E
  have hphi : phi D.n (Vc s.j s.E) tag = 8 * D.n + 22 ∨ phi D.n (Vc s.j s.E) tag = 8 * D.n + 7 := by rcases ht with rfl | ⟨rfl, _⟩ <;> simp [phi]
  rcases Goes.cases hg with hstop | ⟨m', rfl, hstep⟩
  · obtain ⟨_, a', hgo, m₂, hk⟩ := hstop w (rl_refl w)
    refine cBook O ha h hgo (.refl D.Wg w) h.wi.wg (evS1 (.inl rfl)) rfl (tag' := .anch) (e' := 0) (k' := nat m₂) (by rw [hj]; exact .anch hA hk) (hmode.reopen ho trivial (by rw [hp]; rfl) (by simp)) (.inl ?_)
    rcases hphi with e1 | e1 <;> rw [e1] <;> simp only [phi] <;> omega
  · obtain ⟨a', w', es, hgo, ⟨rfl, rfl⟩, hg'⟩ := hstep w (rl_refl w)
    refine cIdle O ha h hgo (tag' := .kd) (e' := 0) (k' := nat m') (by rw [hj]; exact .kd hA hg') (hmode.reopen ho trivial (by rw [hp]; rfl) (by simp)) ?_
    rcases ht with rfl | ⟨rfl, rfl, rfl⟩
    · exact .inl (by simp only [phi]; omega)
    · exact .inr ⟨rfl, dn_nat m'⟩
/-- The load in Wait. -/
theorem cW1 (O : PhOk D) (ha : gs[0]? = some a) (h : Com P D G0 Sh wb s gs w t 1) (hmode : Go.ConcN.Mode s.j s.E tag s.st s.sm) {m : Nat} {A : Goroutine → World → Prop} (hA : AOk P D K A) (hj : s.j = D.n) (hg : Goes P true (RL D.ty D.Wg) DC0 (LW1 P D.ty D.Wg (AftW D K) A) m a w)
    (ht : (tag = .anch) ∨ (tag = .w1 ∧ e = 0 ∧ k = nat m)) : Falls P D K G0 Sh wb gs w sl t 0 (mu D s tag e k) := by
  have ho : isOpen tag := by rcases ht with rfl | ⟨rfl, _⟩ <;> trivial
  have hp : pend tag = 0 := by rcases ht with rfl | ⟨rfl, _⟩ <;> rfl
  have hv := Vc_le s.j s.E
  have hO := O.n
  have hphi : phi D.n (Vc s.j s.E) tag = 8 * (Vc s.j s.E) + 6 ∨ phi D.n (Vc s.j s.E) tag = 8 * (Vc s.j s.E) + 5 := by rcases ht with rfl | ⟨rfl, _⟩ <;> simp [phi]
  rcases Goes.cases hg with hstop | ⟨m', rfl, hstep⟩
  · obtain ⟨_, hall⟩ := hstop w (rl_refl w)
    obtain ⟨hop, e1, e2, _⟩ := hmode.open_inv ho
    have hwg := h.wi.wg
    rw [e1, e2, hp, Nat.add_zero] at hwg
    obtain ⟨a', hgo, h0, hne⟩ := hall (Vc s.j s.E) (by omega) hwg
    by_cases hv0 : Vc s.j s.E = 0
    · obtain ⟨m₂, hk⟩ := h0 hv0
      refine cBook O ha h hgo (.refl D.Wg w) h.wi.wg evSr rfl (tag' := .ke) (e' := 0) (k' := nat m₂) (by rw [hj]; exact .ke hk) ?_ (.inl ?_)
      · rw [e1, e2, hp, hv0]
        have z : (((0 + 0 : Nat) : Int)) * KK = 0 := by simp
        rw [z]
        exact .fin trivial (allQuit_of hop hv0)
      · rcases hphi with e1 | e1 <;> rw [e1] <;> simp only [phi] <;> omega
    · obtain ⟨m₂, hk⟩ := hne hv0
      refine cBook O ha h hgo (.refl D.Wg w) h.wi.wg evSr rfl (tag' := .w2 (Vc s.j s.E)) (e' := 0) (k' := nat m₂) (by rw [hj]; rw [hj] at hk; exact .w2 hA hk) (hmode.reopen ho trivial (by rw [hp]; rfl) (fun vs e => by cases e; omega)) (.inl ?_)
      rcases hphi with e1 | e1 <;> rw [e1] <;> simp only [phi] <;> omega
  · obtain ⟨a', w', es, hgo, ⟨rfl, rfl⟩, hg'⟩ := hstep w (rl_refl w)
    refine cIdle O ha h hgo (tag' := .w1) (e' := 0) (k' := nat m') (by rw [hj]; exact .w1 hA hg') (hmode.reopen ho trivial (by rw [hp]; rfl) (by simp)) ?_
    rcases ht with rfl | ⟨rfl, rfl, rfl⟩
    · exact .inl (by simp only [phi]; omega)
    · exact .inr ⟨rfl, dn_nat m'⟩
/-- The go statement. -/
theorem cGo (ha : gs[0]? = some a) (h : Com P D G0 Sh wb s gs w t 0) {r : Nat} (hr : r < D.n) (hj : s.j = D.n - (r + 1)) (hmode : Go.ConcN.Mode s.j s.E (.sp (r + 1) 1) s.st s.sm) (ht : tag = .sp (r + 1) 1)
    (hs : GoStop P D (D.n - (r + 1)) (fun g v => @Go3 noPh P true (SpStop P D K r) g v) a (s.V 0)) : Falls P D K G0 Sh wb gs w sl t 0 (mu D s tag e k) := by
  subst ht
  obtain ⟨_, a', child, hsp, _, ⟨rr, hw⟩, hnext⟩ := hs
  obtain ⟨rk, hrk⟩ := GoW.of rr hw
  obtain ⟨k2, hk2⟩ := GoR.of hnext
  obtain ⟨ho, e1, e2, _⟩ := hmode.open_inv trivial
  have hrun := runT_crowd_spawn (P := P) (sl := sl) (i := 0) ha (by simpa using hsp w (h.vi.view 0 (by omega)))
  rw [h.size] at hrun
  have hc := h.spawn (a' := a') (child := child) (fn := a.frame.fn) (fn' := child.frame.fn) (pos := a.frame.place) (pos' := a.frame.place) (r := rk) (by rw [hj]; exact hrk)
  have eV : Vc (s.j + 1) (Go.ConcN.upd s.E s.j ⟨7, 0, 0⟩) = Vc s.j s.E + 1 := by
    simp only [Vc, sumTo, upd_same]
    rw [sumTo_upd_out s.E _ cnt (Nat.le_refl _)]; rfl
  have eS : Ssum (s.j + 1) (Go.ConcN.upd s.E s.j ⟨7, 0, 0⟩) = Ssum s.j s.E + 7 := by
    simp only [Ssum, sumTo, upd_same]
    rw [sumTo_upd_out s.E _ WD.stage (Nat.le_refl _)]
  have eB : sumTo (s.j + 1) (fun i => bit (Go.ConcN.upd s.wk s.j true i)) = sumTo s.j (fun i => bit (s.wk i)) + 1 := by
    simp only [sumTo, upd_same]
    rw [sumTo_upd_out s.wk _ bit (Nat.le_refl _)]; rfl
  refine ⟨_, _, _, hrun, ?_, _, _, w, sl, .sp r 6, 0, k2, 0, a', rfl, ?_, ?_, hc, ?_, rfl⟩
  · refine Lt.num ?_
    simp only [eS, eB, phi]
    omega
  · have := h.g0
    rw [Array.getElem?_push_lt (by simp [h.size]; omega), ← Array.getElem?_eq_getElem]
    exact Array.getElem?_setIfInBounds_self_of_lt (by rw [h.size]; omega)
  · show CSitM P D K (.sp r 6) (s.j + 1) 0 k2 0 a' (if 0 = 0 ∨ 0 = s.j + 1 then frz (s.V 0) else s.V 0) w
    rw [if_pos (.inl rfl), hj, show D.n - (r + 1) + 1 = D.n - r by omega]
    exact .s6 (by omega) hk2
  · simp only [e1, e2]
    have : ((Vc s.j s.E + pend (.sp (r + 1) 1) : Nat) : Int) * KK = ((Vc (s.j + 1) (Go.ConcN.upd s.E s.j ⟨7, 0, 0⟩) + pend (.sp r 6) : Nat) : Int) * KK := by rw [eV]; simp [pend]
    rw [this]
    refine .opn trivial (fun i hi => ?_) (by simp)
    by_cases ei : i = s.j
    · subst ei; rw [upd_same]; simp
    · rw [upd_ne s.E _ ei]; exact ho i (by omega)
set_option maxHeartbeats 1600000 in
/-- WHATEVER STEP OF THE STARTER's. -/
theorem stepCaller (O : PhOk D) (hb : View D.vb wb) (hsd : ∀ b, Sh b → ¬ Rdb D.vb b) (ha : gs[0]? = some a) (h : Com P D G0 Sh wb s gs w t d0) (hcs : CSitM P D K tag s.j e k d0 a (s.V 0) w) (hmode : Go.ConcN.Mode s.j s.E tag s.st s.sm) (hrun : a.status = .running) :
    Falls P D K G0 Sh wb gs w sl t 0 (mu D s tag e k) ∨ ∃ m₁ ops, runT P (crowd gs w sl) 0 = (.next m₁, ops) ∧ Done P K D.vb wb Sh m₁ (t ++ ops) := by
  have hVj := Vc_le s.j s.E
  have hO := O.n
  generalize hjj : s.j = jj at hcs
  generalize hvv : s.V 0 = vv at hcs
  cases hcs with
  | s6 hr hg =>
    rename_i r
    rcases hg.cases with hstop | ⟨_, a', v', k', hd, hst, hn⟩
    · cases r with
      | zero =>
        obtain ⟨_, A, hA1, hA2, hw⟩ := hstop
        obtain ⟨m, hg⟩ := hw w h.wi.live
        exact .inl (cKdW O ha h hmode ⟨hA1, hA2⟩ (by omega) hg (.inl rfl))
      | succ r =>
        obtain ⟨_, hw⟩ := hstop
        obtain ⟨m, hg⟩ := hw w h.wi.live
        exact .inl (cKd O ha h hmode (by omega) hjj (vs := vv) (by rw [hvv]; exact Ext.refl _) hg (.inl rfl))
    · subst hvv
      exact .inl (cView O ha h hst hmode (fun w' => by rw [hjj]; exact .s6 hr hn) (.inr ⟨rfl, hd⟩))
  | s5 hr hx hg => exact .inl (cKd O ha h hmode hr hjj (by rw [hvv]; exact hx) hg (.inr ⟨rfl, rfl, rfl⟩))
  | s4 hr hx hg =>
    rename_i r m vs
    rcases Goes.cases hg with hstop | ⟨m', rfl, hstep⟩
    · obtain ⟨_, hall⟩ := hstop w (rl_refl w)
      obtain ⟨ho, e1, e2, _⟩ := hmode.open_inv trivial
      have hwg := h.wi.wg
      rw [e1, e2] at hwg
      obtain ⟨a', hgo, h0, hne⟩ := hall (Vc s.j s.E) (by omega) (by simpa [pend] using hwg)
      have hm3 : ∀ q, q = 3 ∨ q = 2 → Go.ConcN.Mode s.j s.E (.sp (r + 1) q) ((((Vc s.j s.E : Nat) : Int) + 1) * KK) 0 := fun q hq => by
        have e : (((Vc s.j s.E : Nat) : Int) + 1) * KK = ((Vc s.j s.E + pend (.sp (r + 1) q) : Nat) : Int) * KK := by rcases hq with rfl | rfl <;> simp [pend]
        rw [e]
        exact .opn trivial ho (by simp)
      by_cases hv0 : Vc s.j s.E = 0
      · obtain ⟨m₂, hk⟩ := h0 hv0
        exact .inl (cBook O ha h hgo (aside_setCell w (stA D.Wg) _) (st' := (((Vc s.j s.E : Nat) : Int) + 1) * KK) (sm' := 0) (hwg.setSt _) evSrw (d' := 1) (by simp [deafBehind, rd, wr]) (tag' := .sp (r + 1) 3) (e' := 0) (k' := nat m₂) (by have q := CSitM.s3 (v := vv) hr hx hk; rw [← hjj, ← hvv] at q; exact q) (hm3 3 (.inl rfl)) (.inl (by simp only [phi]; omega)))
      · obtain ⟨m₂, hk⟩ := hne hv0
        exact .inl (cBook O ha h hgo (aside_setCell w (stA D.Wg) _) (st' := (((Vc s.j s.E : Nat) : Int) + 1) * KK) (sm' := 0) (hwg.setSt _) evSrw (d' := 1) (by simp [deafBehind, rd, wr]) (tag' := .sp (r + 1) 2) (e' := 0) (k' := nat m₂) (by have q := CSitM.s2 (v := vv) hr hx hk; rw [← hjj, ← hvv] at q; exact q) (hm3 2 (.inr rfl)) (.inl (by simp only [phi]; omega)))
    · obtain ⟨a', w', es, hgo, ⟨rfl, rfl⟩, hg'⟩ := hstep w (rl_refl w)
      exact .inl (cIdle O ha h hgo (by rw [hjj, hvv]; exact .s4 hr hx hg') hmode (.inr ⟨rfl, dn_nat m'⟩))
  | s3 hr hx hg =>
    rename_i r m vs
    rcases Goes.cases hg with hstop | ⟨m', rfl, hstep⟩
    · obtain ⟨_, a', hgo, m₂, hk⟩ := hstop w (rl_refl w)
      exact .inl (cBook O ha h hgo (.refl D.Wg w) h.wi.wg (evSsaid (.inl rfl)) rfl (tag' := .sp (r + 1) 2) (e' := 0) (k' := nat m₂) (by rw [hjj, hvv]; exact .s2 hr hx hk) (hmode.reopen trivial trivial rfl (by simp)) (.inl (by simp only [phi]; omega)))
    · obtain ⟨a', w', es, hgo, ⟨rfl, rfl⟩, hg'⟩ := hstep w (rl_refl w)
      exact .inl (cIdle O ha h hgo (by rw [hjj, hvv]; exact .s3 hr hx hg') hmode (.inr ⟨rfl, dn_nat m'⟩))
  | s2 hr hx hg =>
    rename_i r m vs
    rcases Goes.cases hg with hstop | ⟨m', rfl, hstep⟩
    · obtain ⟨_, a', hgo, hk⟩ := hstop w (rl_refl w)
      obtain ⟨k2, hk2⟩ := GoR.of hk
      exact .inl (cBook O ha h hgo (.refl D.Wg w) h.wi.wg (evS1 (.inr rfl)) rfl (tag' := .sp (r + 1) 1) (e' := 0) (k' := k2) (by rw [hjj, hvv]; exact .s1 hr (hk2.ext hx)) (hmode.reopen trivial trivial rfl (by simp)) (.inl (by simp only [phi]; omega)))
    · obtain ⟨a', w', es, hgo, ⟨rfl, rfl⟩, hg'⟩ := hstep w (rl_refl w)
      exact .inl (cIdle O ha h hgo (by rw [hjj, hvv]; exact .s2 hr hx hg') hmode (.inr ⟨rfl, dn_nat m'⟩))
  | s1 hr hg =>
    rename_i r
    rcases hg.cases with hstop | ⟨_, a', v', k', hd, hst, hn⟩
    · exact .inl (cGo ha h hr hjj hmode rfl (by rw [hvv]; exact hstop))
    · subst hvv
      exact .inl (cView O ha h hst hmode (fun w' => by rw [hjj]; exact .s1 hr hn) (.inr ⟨rfl, hd⟩))
  | kd hA hg => exact .inl (cKdW O ha h hmode hA hjj hg (.inr ⟨rfl, rfl, rfl⟩))
  | anch hA hg =>
    rcases Goes.cases hg with hstop | ⟨m', rfl, hstep⟩
    · obtain ⟨m₂, hk⟩ := hA.round a w (hstop w (rl_refl w))
      exact .inl (cW1 O ha h hmode hA hjj hk (.inl rfl))
    · obtain ⟨a', w', es, hgo, ⟨rfl, rfl⟩, hg'⟩ := hstep w (rl_refl w)
      exact .inl (cIdle O ha h hgo (by rw [hjj]; exact .anch hA hg') hmode (.inr ⟨rfl, dn_nat m'⟩))
  | w1 hA hg => exact .inl (cW1 O ha h hmode hA hjj hg (.inr ⟨rfl, rfl, rfl⟩))
  | w2 hA hg =>
    rename_i vs m A
    rcases Goes.cases hg with hstop | ⟨m', rfl, hstep⟩
    · obtain ⟨_, hall⟩ := hstop w (rl_refl w)
      obtain ⟨ho, e1, e2, hw2⟩ := hmode.open_inv trivial
      have hwg := h.wi.wg
      rw [e1, e2] at hwg
      obtain ⟨hle, h1⟩ := hw2 vs rfl
      obtain ⟨hhit, hmiss⟩ := hall (Vc s.j s.E) (by omega) (by simpa [pend] using hwg)
      by_cases ev : Vc s.j s.E = vs
      · obtain ⟨a', hgo, m₂, m₃, hk⟩ := hhit ev
        have hrg : Go.ConcN.Mode s.j s.E .w3 (((Vc s.j s.E : Nat) : Int) * KK + 1) 0 := .reg trivial ho (by omega)
        exact .inl (cBook O ha h hgo (aside_setCell w (stA D.Wg) _) (st' := ((Vc s.j s.E : Nat) : Int) * KK + 1) (sm' := 0) (hwg.setSt _) evSrw (d' := 1) (by simp [deafBehind, rd, wr]) (tag' := .w3) (e' := 1) (k' := nat m₂) (by have q := CSitM.wr (v := s.V 0) hk; rw [← hjj] at q; exact q) hrg (.inl (by simp only [phi]; omega)))
      · obtain ⟨a', hgo, m₂, hk⟩ := hmiss ev
        exact .inl (cBook O ha h hgo (.refl D.Wg w) h.wi.wg evSr rfl (tag' := .anch) (e' := 0) (k' := nat m₂) (by rw [hjj]; exact .anch hA hk) (hmode.reopen trivial trivial rfl (by simp)) (.inl (by simp only [phi]; omega)))
    · obtain ⟨a', w', es, hgo, ⟨rfl, rfl⟩, hg'⟩ := hstep w (rl_refl w)
      exact .inl (cIdle O ha h hgo (by rw [hjj]; exact .w2 hA hg') hmode (.inr ⟨rfl, dn_nat m'⟩))
  | wr hg =>
    rename_i m m3
    rcases Goes.cases hg with hstop | ⟨m', rfl, hstep⟩
    · obtain ⟨_, a', hgo, hk⟩ := hstop w (rl_refl w)
      exact .inl (cBook O ha h hgo (.refl D.Wg w) h.wi.wg (evSsaid (.inr rfl)) rfl (tag' := .w3) (e' := 0) (k' := nat (m3 + 1)) (by rw [hjj]; exact .w3 hk) hmode (.inl (by omega)))
    · obtain ⟨a', w', es, hgo, ⟨rfl, rfl⟩, hg'⟩ := hstep w (rl_refl w)
      exact .inl (cIdle O ha h hgo (by rw [hjj]; exact .wr hg') hmode (.inr ⟨rfl, dn_nat m'⟩))
  | w3 hg =>
    rcases Goes.cases hg with hstop | ⟨m', rfl, hstep⟩
    · rename_i m
      obtain ⟨_, hoff, hblk, htake⟩ := hstop w (rl_refl w)
      have hwg := h.wi.wg
      have toBlk : (∃ st, WgAt D.ty D.Wg w st 0) → Go.ConcN.Mode s.j s.E .blk s.st s.sm → Falls P D K G0 Sh wb gs w sl t 0 (mu D s .w3 0 (nat (m + 1))) := fun hz hm =>
        cIdle O ha h (hblk hz) (tag' := .blk) (e' := 0) (k' := nat m) (by rw [hjj]; exact .blk hstop) hm (.inr ⟨rfl, dn_nat m⟩)
      generalize hes : s.st = stv at hmode hwg toBlk
      generalize hem : s.sm = smv at hmode hwg toBlk
      cases hmode with
      | opn h1 _ _ => exact h1.elim
      | reg h1 h2 h3 => exact .inl (toBlk ⟨_, hwg⟩ (.reg trivial h2 h3))
      | last L h1 h2 h3 h4 => exact .inl (toBlk ⟨_, hwg⟩ (.last L trivial h2 h3 h4))
      | sema h2 =>
        obtain ⟨a', hgo, m₂, hk⟩ := htake hwg
        exact .inl (cBook O ha h hgo (aside_setCell w (smA D.Wg) _) (hwg.setSm 0) evS_sem (by simp [deafBehind, semEvents]) (tag' := .w4) (e' := 0) (k' := nat m₂) (d' := 1) (by rw [hjj]; exact .w4 hk) (.fin trivial h2) (.inl (by simp only [phi]; omega)))
      | fin h1 _ => exact h1.elim
    · obtain ⟨a', w', es, hgo, ⟨rfl, rfl⟩, hg'⟩ := hstep w (rl_refl w)
      exact .inl (cIdle O ha h hgo (by rw [hjj]; exact .w3 hg') hmode (.inr ⟨rfl, dn_nat _⟩))
  | blk hg => simp at hrun
  | w4 hg =>
    rcases Goes.cases hg with hstop | ⟨m', rfl, hstep⟩
    · obtain ⟨_, hx⟩ := hstop w (rl_refl w)
      obtain ⟨hq, e1, e2⟩ := hmode.fin_inv trivial
      have hwg := h.wi.wg
      rw [e1, e2] at hwg
      obtain ⟨a', hgo, m₂, hk⟩ := hx hwg
      exact .inl (cBook O ha h hgo (.refl D.Wg w) hwg evSr rfl (tag' := .ke) (e' := 0) (k' := nat m₂) (by rw [hjj]; exact .ke hk) (.fin trivial hq) (.inl (by simp only [phi]; omega)))
    · obtain ⟨a', w', es, hgo, ⟨rfl, rfl⟩, hg'⟩ := hstep w (rl_refl w)
      exact .inl (cIdle O ha h hgo (by rw [hjj]; exact .w4 hg') hmode (.inr ⟨rfl, dn_nat m'⟩))
  | ke hg =>
    rcases Goes.cases hg with hstop | ⟨m', rfl, hstep⟩
    · obtain ⟨_, a', hgo, m₂, hk⟩ := hstop w (rl_refl w)
      obtain ⟨hq, e1, e2⟩ := hmode.fin_inv trivial
      have hwg := h.wi.wg
      rw [e1, e2] at hwg
      exact .inl (cBook O ha h hgo (.refl D.Wg w) hwg (evS1 (.inr rfl)) rfl (tag' := .acq) (e' := 0) (k' := nat m₂) (by rw [hjj]; exact .acq hk) (.fin trivial hq) (.inl (by simp only [phi]; omega)))
    · obtain ⟨a', w', es, hgo, ⟨rfl, rfl⟩, hg'⟩ := hstep w (rl_refl w)
      exact .inl (cIdle O ha h hgo (by rw [hjj]; exact .ke hg') hmode (.inr ⟨rfl, dn_nat m'⟩))
  | acq hg =>
    rcases Goes.cases hg with hstop | ⟨m', rfl, hstep⟩
    · obtain ⟨_, a', hgo, hk⟩ := hstop w (rl_refl w)
      obtain ⟨hq, e1, e2⟩ := hmode.fin_inv trivial
      exact .inr ⟨_, _, runT_crowd_go (P := P) (sl := sl) (i := 0) ha (by simpa using hgo), joined O h hb hsd hjj hq hk⟩
    · obtain ⟨a', w', es, hgo, ⟨rfl, rfl⟩, hg'⟩ := hstep w (rl_refl w)
      exact .inl (cIdle O ha h hgo (by rw [hjj]; exact .acq hg') hmode (.inr ⟨rfl, dn_nat m'⟩))
end
end Go.Proofs.Ytgeflnjjppgooaa.Y

namespace Go.Proofs.Ytgeflnjjppgooaa.Y
open Go Go.Conc Go.RowKit Go.Proofs.Ytgeflnjjppgooaa Go.Proofs.Ytgeflnjjppgooaa.Q
open Go.ConcR (KK wgBlock WgAt stA smA rd wr mk Payload DC0 g_of_ofEvents Bk bk_of_mute ofEvent_loc_mark ofEvent_mk)
open Go.ConcN (get_map_set get_map_set_same WgLive PayAt Has RW DWs AtR0 WSit WD upd upd_same upd_ne CTag RelBy Vc Ssum cnt phi pend sumTo sumTo_upd sumTo_upd_out phi_mono phi_retag bk_cell isW3 OpenSt Vc_upd Vc_le others_uncounted le_sumTo Deaf_still Deaf_absent allQuit_of AllQuit exists_counted isOpen)
section
variable {P : Program} {D : Sc} {K : Goroutine → World → Prop} {G0 : Nat} {Sh : Nat → Prop} {wb : World} {s : St} {gs : Array Goroutine} {w w' : World} {sl : Option (Nat × Nat)} {t : Trace} {tag tag' : CTag} {e e' d0 d' : Nat} {k k' : Rk} {a a' : Goroutine} {es : Array Event}
theorem mute_facts (hm : ∀ e ∈ es, Event.mute e = true) (y : Nat) : ∀ e ∈ es, EvS D y e := fun e he => bk_evS (bk_of_mute (hm e he))
/-- A leaver slips: the measure falls. -/
theorem slipStep (ha : gs[0]? = some a) (h : Com P D G0 Sh wb s gs w t d0) (hcs : CSitM P D K tag s.j e k d0 a (s.V 0) w) (hmode : Go.ConcN.Mode s.j s.E tag s.st s.sm) {y : Nat} {g : Goroutine} (hy : 0 < y) (hyG : y < G0) (hg : gs[y]? = some g) (hrun : g.status = .running) :
    Falls P D K G0 Sh wb gs w sl t y (mu D s tag e k) := by
  obtain ⟨q, hF, hq⟩ := h.old y g hy hyG hg
  cases q with
  | zero => rw [hq.1] at hrun; cases hrun
  | succ q =>
    rcases hq with ⟨hf, _⟩ | ⟨_, g', es, hm, hst, hq⟩
    · rw [hf] at hrun; cases hrun
    · have hne : (y == 0) = false := by simp; omega
      have hrunT := runT_crowd_go (P := P) (sl := sl) (i := y) hg (by rw [hne]; exact hst w)
      have hc := h.slip (fn := g.frame.fn) (pos := g.frame.place) hy hyG hg hm hq
      obtain ⟨tag', k', hcs', htag, _⟩ := hcs.wokenBy (Ext.refl _) (rl_refl w) g g'
      refine ⟨_, _, _, hrunT, ?_, { s with F := Go.ConcN.upd s.F y (nat q) }, _, w, sl, tag', e, k', d0, woken P g g' w a, rfl, ?_, hcs', hc, hmode.retag htag, rfl⟩
      · simp only [mu]
        rw [phi_retag D.n _ htag]
        refine Lt.vec ⟨y, by omega, by rw [upd_same, hF]; exact dn_nat q, fun z hz => upd_ne s.F _ hz⟩
      · rw [get_map_set _ _ _ _ (by omega), ha]; rfl
/-- Somebody runs. -/
theorem someone (ha : gs[0]? = some a) (h : Com P D G0 Sh wb s gs w t d0) (hcs : CSitM P D K tag s.j e k d0 a (s.V 0) w) (hmode : Go.ConcN.Mode s.j s.E tag s.st s.sm) : ∃ (i : Nat) (g : Goroutine), gs[i]? = some g ∧ g.status = .running := by
  rcases hcs.status with ⟨hs, _⟩ | ⟨_, rfl⟩
  · exact ⟨0, a, ha, hs⟩
  · generalize s.st = stv at hmode
    generalize s.sm = smv at hmode
    cases hmode with
    | opn h1 _ _ => exact h1.elim
    | reg _ _ h3 =>
      obtain ⟨i, hi, h5⟩ := exists_counted h3
      obtain ⟨g, hg, hs⟩ := h.wks i hi
      exact ⟨G0 + i, g, hg, hs.running_of (by omega)⟩
    | last L _ h2 h3 _ =>
      obtain ⟨g, hg, hs⟩ := h.wks L h2
      exact ⟨G0 + L, g, hg, hs.running_of (by omega)⟩
    | fin h1 _ => exact h1.elim
theorem allAwake (ha : gs[0]? = some a) (h : Com P D G0 Sh wb s gs w t d0) (hcs : CSitM P D K tag s.j e k d0 a (s.V 0) w) : ∀ g ∈ gs, awake g := by
  intro g hg tm
  obtain ⟨i, hi⟩ := Array.mem_iff_getElem?.1 hg
  have hlt := (Array.getElem?_eq_some_iff.1 hi).1
  rw [h.size] at hlt
  rcases Nat.eq_zero_or_pos i with rfl | hpos
  · rw [ha] at hi; cases hi
    rcases hcs.status with ⟨hs, _⟩ | ⟨hs, _⟩ <;> rw [hs] <;> simp
  · rcases Nat.lt_or_ge i G0 with h1 | h1
    · obtain ⟨q, _, hq⟩ := h.old i g hpos h1 hi
      rcases hq.status with h | h <;> rw [h] <;> simp
    · obtain ⟨i', rfl⟩ : ∃ i', i = G0 + i' := ⟨i - G0, by omega⟩
      obtain ⟨g', hg', hs⟩ := h.wks i' (by omega)
      rw [hi] at hg'; cases hg'
      rcases hs.status with h | h <;> rw [h] <;> simp
theorem phase_step (O : PhOk D) (hb : View D.vb wb) (hsd : ∀ b, Sh b → ¬ Rdb D.vb b) (μ : Mu) (m : Machine) (t : Trace) (hI : Inv P D K G0 Sh wb μ m t) :
    ∃ m' ops, stepT P m = (.next m', ops) ∧ (Done P K D.vb wb Sh m' (t ++ ops) ∨ ∃ μ', Lt (G0 + D.n) μ' μ ∧ Inv P D K G0 Sh wb μ' m' (t ++ ops)) := by
  obtain ⟨s, gs, w, sl, tag, e, k, d0, a, rfl, ha, hcs, hcom, hmode, rfl⟩ := hI
  obtain ⟨i, g, d, sl', hg, hrun, hstep⟩ := crowd_pick (P := P) (w := w) (sl := sl) (allAwake ha hcom hcs) (someone ha hcom hcs hmode)
  rw [hstep]
  have hcom' := hcom.at O d
  have hcs' : CSitM P D K tag s.j e k d0 a (up (s.V 0) (w.at d)) (w.at d) := hcs.rely (up_ext _ _) (hcom'.wi.rl (w := w))
  have out : ∀ μ0, μ0 = mu D s tag e k → Falls P D K G0 Sh wb gs (w.at d) sl' t i μ0 → ∃ m' ops, runT P (crowd gs (w.at d) sl') i = (.next m', ops) ∧ (Done P K D.vb wb Sh m' (t ++ ops) ∨ ∃ μ', Lt (G0 + D.n) μ' (mu D s tag e k) ∧ Inv P D K G0 Sh wb μ' m' (t ++ ops)) := by
    rintro μ0 rfl ⟨m₁, ops, μ', h1, h2, h3⟩
    exact ⟨m₁, ops, h1, .inr ⟨μ', h2, h3⟩⟩
  rcases Nat.eq_zero_or_pos i with rfl | hpos
  · rw [ha] at hg; cases hg
    rcases stepCaller (sl := sl') O hb hsd ha hcom' hcs' hmode hrun with h | ⟨m₁, ops, h1, h2⟩
    · exact out _ rfl h
    · exact ⟨m₁, ops, h1, .inl h2⟩
  · have hlt := (Array.getElem?_eq_some_iff.1 hg).1
    rw [hcom.size] at hlt
    rcases Nat.lt_or_ge i G0 with h1 | h1
    · exact out _ rfl (slipStep ha hcom' hcs' hmode hpos h1 hg hrun)
    · obtain ⟨i', rfl⟩ : ∃ i', i = G0 + i' := ⟨i - G0, by omega⟩
      exact out _ rfl (stepWorker O ha hcom' hcs' hmode (show i' < s.j by omega) hg hrun)
/-- ████ A PHASE, ON EVERY TAPE. ████ -/
theorem phase_runs {v : World} (F : Frame P Sh gs w t a v) (h : Phase P true a v K) : ∃ n m' t', runNT P n (crowd gs w sl) t = (.next m', t') ∧ Done P K v w Sh m' t' := by
  classical
  obtain ⟨_, D, rfl, O, hgo⟩ := h
  obtain ⟨k, hk⟩ := GoR.of hgo
  have hg0 : 0 < gs.size := (Array.getElem?_eq_some_iff.1 F.a).1
  have hBe : ∀ b, Rdb (begin_ D) b ↔ Rdb D.vb b ∧ b ≠ D.Wg ∧ D.arr b = false := fun b => by
    unfold begin_
    rw [rdb_kill, rdb_frz]
    simp
  have hBl : ∀ b, ¬ Liv (begin_ D) b := fun b hl => by
    unfold begin_ at hl
    rw [liv_kill] at hl
    exact not_liv_frz hl.1
  have hwgv := O.wg
  have hWl : Liv D.vb D.Wg := ⟨_, _, _, hwgv, by simp, by simp⟩
  have liveEq : ∀ (b : Nat) (c : Array Value) (ty : TypeId), D.vb.heap[b]? = some (Obj.cells c ty (0, 0)) → c ≠ #[] → w.heap[b]? = some (Obj.cells c ty (0, 0)) := fun b c ty h1 h2 => by
    have hb := F.view.blk b
    rw [h1] at hb
    revert hb
    generalize hz : ((0 : Nat), (0 : Nat)) = z
    generalize w.heap[b]? = y
    intro hb
    cases hb with
    | same _ => rfl
    | dead => exact absurd rfl h2
    | fro =>
      have : c.size = 0 := (congrArg Prod.snd hz).symm
      exact absurd (Array.eq_empty_of_size_eq_zero this) h2
  have hWlt : D.Wg < D.vb.heap.size := liv_lt hWl
  let s0 : St := { j := 0, V := fun _ => begin_ D, E := fun _ => ⟨0, 0, 0⟩, wk := fun _ => false, σ := fun _ => [], F := fun y => if h : ∃ q g, gs[y]? = some g ∧ QuitsD P q (Deaf t y) g then nat h.choose else .leaf, rel := fun _ => none, st := 0, sm := 0 }
  have hcom : Com P D gs.size Sh w s0 gs w t 0 := by
    refine ⟨hg0, rfl, fun y g hy hyG hg => ?_, fun i hi => absurd hi (Nat.not_lt_zero i), ⟨fun x _ => view_kill (view_frz F.view), fun x y _ _ hne b hl => absurd hl (hBl b), fun x _ b hb hr => ?_, fun x _ b _ hl => hBl b hl⟩,
      ⟨liveEq _ _ _ hwgv (by simp), fun b d ty z hb hd => ?_, fun i hi => absurd hi (Nat.not_lt_zero i), fun _ _ _ _ => rfl, rfl, rfl, rfl, by rw [F.view.size]; exact Nat.le_refl _, hWlt, ?_⟩, ?_, F.norel, F.deaf0, fun i hi => absurd hi (Nat.not_lt_zero i), fun i hi => absurd hi (Nat.not_lt_zero i), fun _ _ => rfl, fun i hi => absurd hi (Nat.not_lt_zero i), fun b hb => by rw [F.view.size]; exact F.shb b hb, fun b hb => ?_⟩
    · obtain ⟨q, hq⟩ := F.old y g hy hg
      have hex : ∃ q g, gs[y]? = some g ∧ QuitsD P q (Deaf t y) g := ⟨q, g, hg, hq⟩
      obtain ⟨g', hg', hq'⟩ := hex.choose_spec
      rw [hg] at hg'; cases hg'
      exact ⟨hex.choose, by simp only [s0]; rw [dif_pos hex], hq'⟩
    · have hr := (hBe b).1 hr
      rcases hb with rfl | hb | hb
      · exact hr.2.1 rfl
      · rw [hb] at hr; exact absurd hr.2.2 (by simp)
      · exact F.dead b hb hr.1
    · obtain ⟨_, c, ty', h1⟩ := O.arr b hb
      obtain ⟨c2, ty2, z2, h2, h3, _⟩ := O.arr0 b hb
      rw [hd] at h1 h2; cases h1; cases h2
      exact ⟨d, liveEq _ _ _ hd h3, rfl⟩
    · exact liveEq _ _ _ O.c.2.2 (by simp)
    · refine ((F.ti.addSh (Sh' := ShW D Sh) (fun b hb => .inr hb) (fun ad hs => ?_) fun y hy => hy).weak (fun y b hr => ?_) (fun y ad hr => ?_) fun y hy => ?_)
      · rcases hs with hs | hs
        · exact .inr ⟨rfl, by rw [hs]; exact hWl⟩
        · exact .inl hs
      · rcases hr with ⟨rfl, hr⟩ | ⟨i, hi, _⟩
        · exact ⟨rfl, ((hBe b).1 hr).1⟩
        · exact absurd hi (Nat.not_lt_zero i)
      · rcases hr with ⟨rfl, hr | ⟨i, _, ho⟩⟩ | ⟨i, hi, _⟩
        · exact absurd hr (hBl _)
        · exact ⟨rfl, O.arr0 _ (O.own i ad ho).1⟩
        · exact absurd hi (Nat.not_lt_zero i)
      · rcases hy with rfl | ⟨i, hi, _⟩
        · rfl
        · exact absurd hi (Nat.not_lt_zero i)
    · cases ha : D.arr b with
      | false => rfl
      | true => exact absurd (O.arr0 b ha).rdb (F.dead b hb)
  have hcs : CSitM P D K (.sp D.n 6) s0.j 0 k 0 a (s0.V 0) w := by
    have := CSitM.s6 (P := P) (K := K) (w := w) (Nat.le_refl D.n) hk
    rw [Nat.sub_self] at this
    exact this
  have hmode : Go.ConcN.Mode s0.j s0.E (.sp D.n 6) s0.st s0.sm := by
    have := Go.ConcN.Mode.opn (j := 0) (D := fun _ => (⟨0, 0, 0⟩ : WD)) (tag := .sp D.n 6) trivial (fun i hi => absurd hi (Nat.not_lt_zero i)) (by simp)
    simpa [Vc, sumTo, pend] using this
  exact reach_of_inv (Lt.wf (gs.size + D.n)) (Inv P D K gs.size Sh w) (Done P K D.vb w Sh) (phase_step O F.view F.dead) _ _ t ⟨s0, gs, w, sl, .sp D.n 6, 0, k, 0, a, rfl, F.a, hcs, hcom, hmode, rfl⟩
end
end Go.Proofs.Ytgeflnjjppgooaa.Y

namespace Go.Proofs.Ytgeflnjjppgooaa.Y
open Go Go.Conc Go.RowKit Go.Proofs.Ytgeflnjjppgooaa Go.Proofs.Ytgeflnjjppgooaa.Q
open Go.ConcN (get_map_set get_map_set_same upd upd_same upd_ne)
section
variable {P : Program} {K : Goroutine → World → Prop} {Sh : Nat → Prop} {gs : Array Goroutine} {v v' v'' w w' w'' : World} {sl : Option (Nat × Nat)} {t : Trace} {a a' : Goroutine} {es : Array Event}
theorem Since.refl : Since v w Sh v w Sh := ⟨Nat.le_refl _, fun _ _ _ => rfl, fun _ _ h => .inl h, fun _ _ => ⟨id, .inl⟩, fun _ => id⟩
theorem Since.trans {Sh' Sh'' : Nat → Prop} (h : Since v w Sh v' w' Sh') (k : Since v' w' Sh' v'' w'' Sh'') : Since v w Sh v'' w'' Sh'' := by
  have hs := h.size
  refine ⟨Nat.le_trans hs k.size, fun b hb hn => ?_, fun b hb hl => ?_, fun b hb => ⟨fun hl => (h.back b hb).1 ((k.back b (by omega)).1 hl), fun hs2 => ?_⟩, fun b hb => k.sh b (h.sh b hb)⟩
  · exact (k.keep b (by omega) fun hl => hn ((h.back b hb).1 hl)).trans (h.keep b hb hn)
  · rcases h.liv b hb hl with h1 | h1
    · exact k.liv b (by omega) h1
    · exact .inr (k.sh b h1)
  · rcases (k.back b (by omega)).2 hs2 with h1 | h1
    · exact (h.back b hb).2 h1
    · exact .inr ((h.back b hb).1 h1)
theorem Since.up (hb : w'.heap = w.heap) : Since v w Sh (up v w') w' Sh := ⟨(up_ext v w').size, fun b _ _ => by rw [hb], fun b _ hl => .inl (liv_up.2 hl), fun _ _ => ⟨fun hl => liv_up.1 hl, .inl⟩, fun _ => id⟩
theorem Since.chg (hc : Chg v v' w w') : Since v w Sh v' w' Sh := ⟨hc.grow, fun b hb hn => (hc.keep b hb hn).2, fun b _ hl => .inl (hc.stay b hl), fun _ hb => ⟨fun hl => hc.liv hb hl, .inl⟩, fun _ => id⟩
/-- What stood at the beginning stands, if goroutine 0 says so of what it sees. -/
theorem Since.below {v0 w0 : World} (h : Since v0 w0 (fun _ => False) v w Sh) (h0 : View v0 w0) (hv : View v w) (hd : ∀ b, Sh b → ¬ Rdb v b) (hB : Below w0.heap.size v0 v) : Below w0.heap.size w0 w := by
  have r0 := h0.rest
  have r := hv.rest
  have hs := h.size
  refine ⟨?_, ?_, ?_, by rw [← hv.size, ← h0.size]; exact hs, fun b hb => ?_⟩
  · rw [r, r0]; exact hB.os
  · rw [r, r0]; exact hB.tape
  · rw [r, r0]; exact hB.output
  · have hb0 : b < v0.heap.size := by rw [h0.size]; exact hb
    have e := hB.block b hb
    have liveEq : ∀ {u x : World}, View u x → Liv u b → x.heap[b]? = u.heap[b]? := fun {u x} hux hl => by
      obtain ⟨c, ty, z, h1, h2, h3⟩ := hl
      have hbk := hux.blk b
      rw [h1] at hbk ⊢
      generalize x.heap[b]? = y at hbk
      cases hbk with
      | same _ => rfl
      | dead => exact absurd rfl h2
      | fro => exact absurd rfl h3
    by_cases hl : Liv v0 b
    · rcases h.liv b hb0 hl with h1 | h1
      · rw [liveEq hv h1, e, liveEq h0 hl]
      · exact absurd ((rdb_of_eq e).2 hl.rdb) (hd b h1)
    · exact h.keep b hb0 hl
theorem Frame.pos (F : Frame P Sh gs w t a v) : 0 < gs.size := (Array.getElem?_eq_some_iff.1 F.a).1
theorem Frame.at (F : Frame P Sh gs w t a v) (d : Nat) : Frame P Sh gs (w.at d) t a (up v (w.at d)) :=
  ⟨F.a, view_same F.view rfl rfl rfl rfl, F.old, F.ti.weak (fun _ _ hr => ⟨hr.1, rdb_up.1 hr.2⟩) (fun _ _ hr => ⟨hr.1, liv_up.1 hr.2⟩) fun _ => id, fun b hb hr => F.dead b hb (rdb_up.1 hr), F.shb, F.deaf0, F.norel⟩
theorem Frame.slip (F : Frame P Sh gs w t a v) (ha : a.status = .running) {fn : FuncId} {pos : String} {y q : Nat} {g g' : Goroutine} (hy : 0 < y) (hg : gs[y]? = some g) (hm : ∀ e ∈ es, Event.mute e = true) (hq : QuitsD P q (deafBehind (Deaf t y) es) g') :
    Frame P Sh ((gs.map (woken P g g' w)).setIfInBounds y g') w (t ++ MemOp.ofEvents y fn pos es) a v := by
  have hsz : y < gs.size := (Array.getElem?_eq_some_iff.1 hg).1
  refine ⟨by rw [get_map_set _ _ _ _ (by omega), F.a]; simp [woken_run ha], F.view, fun k x hk hx => ?_, ?_, F.dead, F.shb, by rw [Deaf_other t (by omega) _ ops_g]; exact F.deaf0, fun ad => (F.norel ad).app (norelA fun e he => (mute_facts (D := ⟨0, 0, 0, .nilIface, 0, 0, v, fun _ => false, fun _ _ => False, fun _ _ _ => False⟩) hm y e he).2.1)⟩
  · by_cases e : k = y
    · subst e
      rw [get_map_set_same _ _ _ hsz] at hx
      cases hx
      exact ⟨q, by rw [Deaf_own]; exact hq⟩
    · rw [get_map_set _ _ _ _ (Ne.symm e)] at hx
      obtain ⟨z, hz, rfl⟩ := Option.map_eq_some_iff.1 hx
      obtain ⟨q', h2⟩ := F.old k z hk hz
      refine ⟨q', ?_⟩
      rw [woken_quitsD h2, Deaf_other t (Ne.symm e) _ ops_g]
      exact h2
  · have := F.ti.mute (u := MemOp.ofEvents y fn pos es) (Nat.le_refl _) (fun op hop => by rw [ops_g op hop]; exact hsz) (fun op hop => by obtain ⟨e, he, rfl⟩ := Go.Conc.mem_ofEvents hop; exact touch_mute (hm e he)) (fun op hop => by obtain ⟨e, he, rfl⟩ := Go.Conc.mem_ofEvents hop; exact low_mute (hm e he) _) ops_g
    simpa using this
/-- Goroutine 0's events are well. -/
theorem Frame.ops (F : Frame P Sh gs w t a v) (hv' : View v' w') (hgr : v.heap.size ≤ v'.heap.size) (hr : ∀ b, b < v.heap.size → Rdb v' b → Rdb v b) (hl : ∀ b, b < v.heap.size → Liv v' b → Liv v b) {fn : FuncId} {pos : String} (he : ∀ e ∈ es, EvOk v v'.heap.size e) :
    TI Sh (RdF v') (WrF v') (fun y => y = 0) (fun _ => none) (gs.size - 1) w'.heap.size gs.size (t ++ MemOp.ofEvents 0 fn pos es) := by
  have hsz := F.view.size
  have hsz' := hv'.size
  refine F.ti.step ⟨fun x ad hw y hne => ⟨fun h => hne (h.1.trans hw.1.symm), fun h => hne (h.1.trans hw.1.symm)⟩, fun y b h => ?_, fun y ad h => ?_, F.shb, fun b hb y h => F.dead b hb h.2, fun ad hb y h => F.dead _ hb h.2.rdb⟩ (x := 0) rfl F.pos (by omega) ops_g (fun op hop b hb => ?_) (fun op hop => ?_)
    (fun i op b _ _ _ => .inl rfl) (fun y b h => ?_) (fun y ad h => ?_)
  · rw [← hsz]; exact rdb_lt h.2
  · rw [← hsz]; exact liv_lt h.2
  · obtain ⟨e, hee, rfl⟩ := Go.Conc.mem_ofEvents hop
    rcases evok_op (he e hee) hb with h1 | ⟨ad, h1, h2⟩
    · exact .inl h1
    · refine .inr ⟨ad, h1, ?_⟩
      rcases h2 with h2 | h2
      · exact .inr (.inl (by omega))
      · split at h2
        · exact .inr (.inr (.inl ⟨rfl, h2⟩))
        · rename_i hnw
          exact .inr (.inr (.inr ⟨⟨rfl, h2⟩, by simpa using hnw⟩))
  · obtain ⟨e, hee, rfl⟩ := Go.Conc.mem_ofEvents hop
    rw [← hsz']
    exact evok_low (he e hee)
  · obtain ⟨rfl, h⟩ := h
    rcases Nat.lt_or_ge b w.heap.size with hlt | hge
    · exact .inl ⟨rfl, hr b (by omega) h⟩
    · exact .inr ⟨rfl, hge⟩
  · obtain ⟨rfl, h⟩ := h
    rcases Nat.lt_or_ge ad.block w.heap.size with hlt | hge
    · exact .inl ⟨rfl, hl _ (by omega) h⟩
    · exact .inr ⟨rfl, hge⟩
theorem Frame.step (F : Frame P Sh gs w t a v) {fn : FuncId} {pos : String} (hc : Chg v v' w w') (he : ∀ e ∈ es, EvOk v v'.heap.size e) : Frame P Sh ((gs.map (woken P a a' w')).setIfInBounds 0 a') w' (t ++ MemOp.ofEvents 0 fn pos es) a' v' := by
  have hsz := F.view.size
  have hsz' := hc.view.size
  have hgr := hc.grow
  refine ⟨get_map_set_same _ _ _ F.pos, hc.view, fun k x hk hx => ?_, ?_, fun b hb hr => F.dead b hb (hc.rdb (by have := F.shb b hb; omega) hr), fun b hb => by have := F.shb b hb; omega, ?_, fun ad => (F.norel ad).app (norelA fun e h => (evok_mark (he e h)).2.2)⟩
  · rw [get_map_set _ _ _ _ (by omega)] at hx
    obtain ⟨z, hz, rfl⟩ := Option.map_eq_some_iff.1 hx
    obtain ⟨q', h2⟩ := F.old k z hk hz
    refine ⟨q', ?_⟩
    rw [woken_quitsD h2, Deaf_other t (by omega) _ ops_g]
    exact h2
  · have := F.ops (fn := fn) (pos := pos) hc.view hgr (fun b hb h => hc.rdb hb h) (fun b hb h => hc.liv hb h) he
    simpa using this
  · rw [Deaf_own, F.deaf0]
    exact deafBehind_still (fun e h => ⟨(evok_mark (he e h)).1, (evok_mark (he e h)).2.1⟩) _
theorem Frame.awake (F : Frame P Sh gs w t a v) (ha : a.status = .running) : ∀ g ∈ gs, awake g := by
  intro g hg
  obtain ⟨i, hi, rfl⟩ := Array.mem_iff_getElem.1 hg
  rcases Nat.eq_zero_or_pos i with rfl | hpos
  · have : gs[0] = a := by simpa [Array.getElem?_eq_getElem hi] using F.a
    rw [this]; exact awake_of (.inl ha)
  · obtain ⟨q, hq⟩ := F.old i _ hpos (Array.getElem?_eq_getElem hi)
    exact awake_of (hq.status.elim .inl fun x => .inr (.inr x))
/-- Leavers' ranks. -/
def Lv (P : Program) (gs : Array Goroutine) (t : Trace) (q : Nat → Rk) : Prop := ∀ y g, 0 < y → gs[y]? = some g → ∃ n, q y = nat n ∧ QuitsD P n (Deaf t y) g
theorem Frame.lv (F : Frame P Sh gs w t a v) : ∃ q, Lv P gs t q := by
  classical
  refine ⟨fun y => if h : ∃ n g, gs[y]? = some g ∧ QuitsD P n (Deaf t y) g then nat h.choose else .leaf, fun y g hy hg => ?_⟩
  obtain ⟨n, hn⟩ := F.old y g hy hg
  have hex : ∃ n g, gs[y]? = some g ∧ QuitsD P n (Deaf t y) g := ⟨n, g, hg, hn⟩
  obtain ⟨g', hg', hq'⟩ := hex.choose_spec
  rw [hg] at hg'; cases hg'
  exact ⟨hex.choose, dif_pos hex, hq'⟩
theorem Lv.slip {q : Nat → Rk} (h : Lv P gs t q) {fn : FuncId} {pos : String} {y n : Nat} {g g' : Goroutine} (hg : gs[y]? = some g) (hq : QuitsD P n (deafBehind (Deaf t y) es) g') :
    Lv P ((gs.map (woken P g g' w)).setIfInBounds y g') (t ++ MemOp.ofEvents y fn pos es) (Go.ConcN.upd q y (nat n)) := by
  have hsz : y < gs.size := (Array.getElem?_eq_some_iff.1 hg).1
  intro k x hk hx
  by_cases e : k = y
  · subst e
    rw [get_map_set_same _ _ _ hsz] at hx
    cases hx
    exact ⟨n, upd_same _ _ _, by rw [Deaf_own]; exact hq⟩
  · rw [get_map_set _ _ _ _ (Ne.symm e)] at hx
    obtain ⟨z, hz, rfl⟩ := Option.map_eq_some_iff.1 hx
    obtain ⟨q', h1, h2⟩ := h k z hk hz
    refine ⟨q', (upd_ne q _ e).trans h1, ?_⟩
    rw [woken_quitsD h2, Deaf_other t (Ne.symm e) _ ops_g]
    exact h2
/-- Who moves: goroutine 0, or a leaver slips. -/
theorem Frame.pick (F : Frame P Sh gs w t a v) (ha : a.status = .running) {q : Nat → Rk} (hL : Lv P gs t q) :
    (∃ d sl', stepT P (crowd gs w sl) = runT P (crowd gs (w.at d) sl') 0) ∨
    ∃ d sl' gs' ops q', stepT P (crowd gs w sl) = (.next (crowd gs' (w.at d) sl'), ops) ∧ Frame P Sh gs' (w.at d) (t ++ ops) a (up v (w.at d)) ∧ Lv P gs' (t ++ ops) q' ∧ Vec gs.size q' q ∧ gs'.size = gs.size := by
  obtain ⟨i, g, d, sl', hi, hg, hst⟩ := crowd_pick (P := P) (w := w) (sl := sl) (F.awake ha) ⟨0, a, F.a, ha⟩
  rcases Nat.eq_zero_or_pos i with rfl | hpos
  · exact .inl ⟨d, sl', hst⟩
  · obtain ⟨n, hqi, hq⟩ := hL i g hpos hi
    have hi0 : (i == 0) = false := by simp; omega
    have hlt : i < gs.size := (Array.getElem?_eq_some_iff.1 hi).1
    cases n with
    | zero => rw [hq.1] at hg; cases hg
    | succ n =>
      rcases hq with ⟨hf, _⟩ | ⟨_, g', es, hm, hstp, hq'⟩
      · rw [hf] at hg; cases hg
      · have hrunT := runT_crowd_go (P := P) (sl := sl') (i := i) hi (by rw [hi0]; exact hstp (w.at d))
        exact .inr ⟨d, sl', _, _, Go.ConcN.upd q i (nat n), hst.trans hrunT, (F.at d).slip ha hpos hi hm hq', hL.slip hi hq', ⟨i, hlt, by rw [upd_same, hqi]; exact dn_nat n, fun y hy => upd_ne q _ hy⟩, by simp⟩
/-- ████ GOROUTINE 0's WAY, ON EVERY TAPE. ████ -/
theorem walk {S : Goroutine → World → Prop} (h : @Go3 phC P true S a v) : ∀ {gs : Array Goroutine} {w : World} {sl : Option (Nat × Nat)} {t : Trace} {Sh : Nat → Prop}, Frame P Sh gs w t a v → ∃ n m' t', runNT P n (crowd gs w sl) t = (.next m', t') ∧ Done P (fun g v => S g v ∧ ∀ v1, Ext v v1 → S g v1) v w Sh m' t' := by
  induction h with
  | @stop a v h => exact fun {gs w sl t Sh} F => ⟨0, crowd gs w sl, t, rfl, gs, w, sl, a, v, Sh, rfl, F, ⟨h v (Ext.refl v), h⟩, .refl⟩
  | @step a v hs g' v' h hn ih =>
    intro gs w sl t Sh F
    obtain ⟨q, hq⟩ := F.lv
    have key := reach_of_inv (P := P) (Vec.wf gs.size) (fun q m t' => ∃ gs' w' sl' v1, m = crowd gs' w' sl' ∧ Frame P Sh gs' w' t' a v1 ∧ Ext v v1 ∧ Lv P gs' t' q ∧ gs'.size = gs.size ∧ Since v w Sh v1 w' Sh)
      (fun m t' => ∃ gs' w' sl' v1, m = crowd gs' w' sl' ∧ Frame P Sh gs' w' t' (g' v1) (v' v1) ∧ Ext v v1 ∧ Since v w Sh (v' v1) w' Sh) (by
        rintro q m t' ⟨gs', w', sl', v1, rfl, F', hx, hL, hsz, hsi⟩
        rcases F'.pick (sl := sl') hs hL with ⟨d, sl2, hst⟩ | ⟨d, sl2, gs2, ops, q', hst, F2, hL2, hv2, hsz2⟩
        · have F3 := F'.at d
          have hx2 : Ext v (up v1 (w'.at d)) := hx.trans (up_ext _ _)
          obtain ⟨w2, es, hgo, hc, he⟩ := h _ hx2 _ F3.view
          have hrunT := runT_crowd_go (P := P) (sl := sl2) (i := 0) F'.a (show stepG P (0 == 0) a (w'.at d) = _ from hgo)
          exact ⟨_, _, hst.trans hrunT, .inl ⟨_, w2, sl2, up v1 (w'.at d), rfl, F3.step hc he, hx2, (hsi.trans (Since.up (w' := w'.at d) rfl)).trans (.chg hc)⟩⟩
        · exact ⟨_, _, hst, .inr ⟨q', by rw [← hsz]; exact hv2, gs2, _, sl2, up v1 (w'.at d), rfl, F2, hx.trans (up_ext _ _), hL2, hsz2.trans hsz, hsi.trans (Since.up (w' := w'.at d) rfl)⟩⟩)
      q (crowd gs w sl) t ⟨gs, w, sl, v, rfl, F, Ext.refl v, hq, rfl, .refl⟩
    obtain ⟨n, m', t', hr, gs', w', sl', v1, rfl, F', hx, hsi⟩ := key
    obtain ⟨n2, m2, t2, hr2, gs2, w2, sl2, a2, v2, Sh2, rfl, F2, hS, hsi2⟩ := ih v1 hx (sl := sl') F'
    exact ⟨n + n2, _, t2, by rw [runNT_add, hr]; exact hr2, gs2, w2, sl2, a2, v2, Sh2, rfl, F2, hS, hsi.trans hsi2⟩
  | @phase a v K h hn ih =>
    intro gs w sl t Sh F
    obtain ⟨n, m', t', hr, gs', w', sl', a', v', Sh', rfl, F', hK, hsi⟩ := phase_runs (sl := sl) F (h v (Ext.refl v))
    obtain ⟨n2, m2, t2, hr2, gs2, w2, sl2, a2, v2, Sh2, rfl, F2, hS, hsi2⟩ := ih v (Ext.refl v) a' v' hK (sl := sl') F'
    exact ⟨n + n2, _, t2, by rw [runNT_add, hr]; exact hr2, gs2, w2, sl2, a2, v2, Sh2, rfl, F2, hS, hsi.trans hsi2⟩
/-- At the return. -/
def EndS (P : Program) (Post : Value → World → Prop) (g : Goroutine) (v : World) : Prop :=
  g.status = .running ∧ ∀ w, View v w → ∃ x es, stepG P true g w = .ended (.done x) w es ∧ (∀ e ∈ es, EvOk v v.heap.size e) ∧ Post x v
theorem Frame.first (hv : View v w) : Frame P (fun _ => False) #[a] w #[] a v :=
  ⟨rfl, hv, fun y g hy hg => absurd (Array.getElem?_eq_some_iff.1 hg).1 (by simp; omega), TI.nil _, fun _ h => h.elim, fun _ h => h.elim, rfl, fun ad i hi => by simp [Trace.act?] at hi⟩
/-- What holds at the end. -/
def FinS (Post : Value → World → Prop) (v0 w0 : World) (x : Value) (w : World) : Prop := ∃ v Sh, Post x v ∧ View v w ∧ (∀ b, Sh b → ¬ Rdb v b) ∧ Since v0 w0 (fun _ => False) v w Sh
/-- ████ FROM THE ENTRY TO THE RETURN, ON EVERY TAPE. ████ -/
theorem law_runs {Post : Value → World → Prop} (hv : View v w) (h : @Go3 phC P true (EndS P Post) a v) :
    ∃ N last o w' t', runNT P (N + 1) (solo a w) #[] = (.ended o w', t') ∧ runN P N (solo a w) = .next last ∧ step P last = .ended o w' ∧ Go.Conc.Good P (FinS Post v w) last o w' t' := by
  obtain ⟨n, m', t', hr, gs, w1, sl, a1, v1, Sh, rfl, F, ⟨hS1, hS⟩, hsi⟩ := walk (sl := none) h (Frame.first hv)
  obtain ⟨q, hq⟩ := F.lv
  have key := run_of_inv (P := P) (Vec.wf gs.size) (fun q m t' => ∃ gs' w' sl' v2, m = crowd gs' w' sl' ∧ Frame P Sh gs' w' t' a1 v2 ∧ Ext v1 v2 ∧ Lv P gs' t' q ∧ gs'.size = gs.size ∧ Since v w (fun _ => False) v2 w' Sh)
    (Go.Conc.Good P (FinS Post v w)) (by
      rintro q m t' ⟨gs', w', sl', v2, rfl, F', hx, hL, hsz, hsi'⟩
      rcases F'.pick (sl := sl') hS1.1 hL with ⟨d, sl2, hst⟩ | ⟨d, sl2, gs2, ops, q', hst, F2, hL2, hv2, hsz2⟩
      · have F3 := F'.at d
        obtain ⟨_, hend⟩ := hS _ (hx.trans (up_ext v2 (w'.at d)))
        obtain ⟨x, es, hgo, he, hp⟩ := hend _ F3.view
        have hrunT := runT_many_ended (P := P) (sl := sl2) (i := 0) F'.a (show stepG P (0 == 0) a1 (w'.at d) = _ from hgo)
        have hT := F3.ops (fn := a1.frame.fn) (pos := a1.frame.place) F3.view (Nat.le_refl _) (fun _ _ h => h) (fun _ _ h => h) he
        refine .inl ⟨_, _, _, hst.trans hrunT, x, rfl, ⟨_, Sh, hp, F3.view, F3.dead, hsi'.trans (Since.up (w' := w'.at d) rfl)⟩, hT.clean, hT.over (by omega), ⟨fun z hz => ?_, rfl⟩, fun j z hz hj => ?_⟩
        · obtain ⟨j, hj⟩ := List.mem_iff_getElem?.1 hz
          rw [List.getElem?_drop] at hj
          obtain ⟨n, hn⟩ := F'.old (1 + j) z (by omega) (by simpa [crowd] using hj)
          exact ⟨_, hn.leaves⟩
        · obtain ⟨n, hn⟩ := F'.old j z (by omega) hz
          refine ⟨n, ?_⟩
          have e : (t' ++ MemOp.ofEvents 0 a1.frame.fn a1.frame.place es).deaf j (t' ++ MemOp.ofEvents 0 a1.frame.fn a1.frame.place es).size = Deaf t' j :=
            Deaf_other t' (g := j) (g' := 0) (by omega) _ ops_g
          rw [e]
          exact hn.hears _
      · exact .inr ⟨_, _, q', hst, by rw [← hsz]; exact hv2, gs2, _, sl2, up v2 (w'.at d), rfl, F2, hx.trans (up_ext _ _), hL2, hsz2.trans hsz, hsi'.trans (Since.up (w' := w'.at d) rfl)⟩)
    q (crowd gs w1 sl) t' ⟨gs, w1, sl, v1, rfl, F, Ext.refl v1, hq, rfl, hsi⟩
  obtain ⟨N, last, o, w2, t2, e1, e2, e3, e4⟩ := key
  rw [← solo_eq_crowd] at hr
  refine ⟨n + N, last, o, w2, t2, ?_, ?_, e3, e4⟩
  · rw [Nat.add_assoc, runNT_add, hr]; exact e1
  · rw [runN_add, ← runNT_fst P _ _ #[], hr]; exact e2
end
end Go.Proofs.Ytgeflnjjppgooaa.Y

namespace Go.Proofs.Ytgeflnjjppgooaa.Y
open Go Go.Conc Go.RowKit Go.Proofs.Ytgeflnjjppgooaa Go.Proofs.Ytgeflnjjppgooaa.Q
/-- The world as goroutine 0 sees it ahead of its first step. -/
def selfV (w : World) : World := { w with heap := w.heap.mapIdx selfO }
theorem selfV_get (w : World) (b : Nat) : (selfV w).heap[b]? = (w.heap[b]?).map (selfO b) := by simp [selfV]
theorem selfV_view (w : World) : View (selfV w) w := by
  refine ⟨rfl, by simp [selfV], fun b => ?_⟩
  rw [selfV_get]
  cases w.heap[b]? with
  | none => exact .same (fun a t h => by cases h)
  | some o => exact br_self b o
theorem selfV_cell {w : World} {a : Addr} {v : Value} (h : w.cell? a = some v) (hs : a.spot = none) : (selfV w).cell? a = some v := by
  simp only [World.cell?, selfV_get] at h ⊢
  cases hb : w.heap[a.block]? with
  | none => rw [hb] at h; simp at h
  | some o => rw [hb] at h; cases o <;> simp_all [selfO]
theorem selfV_cl {w : World} {a : Option Addr} {us : List Value} (h : Cl w a us) : Cl (selfV w) a us := by
  rcases h with h | ⟨p, h1, h2, h3⟩
  · exact .inl h
  · refine .inr ⟨p, h1, h2, fun i u hu => ?_⟩
    obtain ⟨v, hv, hc⟩ := h3 i u hu
    exact ⟨v, selfV_cell hv rfl, hc⟩
theorem run_results1 {P : Program} {fn : Func} {t : Tmp} (h : fn.results = #[.tmp t]) (tmps : Array Value) (w : World) : (results fn tmps).run P w = .ok (tmps.getD t undef) w := by simp [results, h]
theorem ev_results1 {P : Program} {fn : Func} {t : Tmp} (h : fn.results = #[.tmp t]) (tmps : Array Value) (w : World) : (results fn tmps).events P w #[] = #[] := by simp [results, h]
theorem leave_bottom {P : Program} {fn : Func} {b : Go.Frame} {a : Act} {todo : List Item} {w : World} {v : Value} (hn : b.kind = .normal) (hd : a.defers = []) (hf : P.funcs[b.fn]? = some fn) (hi : P.inits.idxOf? b.fn = none) (hr : (results fn a.tmps).run P w = .ok v w) (he : (results fn a.tmps).events P w #[] = #[]) :
    stepG P true (G { b.at a todo with mode := .returning } []) w = .ended (.done v) w #[] := by
  simp [G, stepG, unwind, doReturn, Go.Frame.at, hn, hd, hf, hi, hr, he, seen, GStep.after]
/-- ████ A CONTRACT OVER VIEWS, AS A RUN. ████ -/
theorem runs_of {P : Program} {f : FuncId} {fn : Func} {t : Tmp} {args : Array Value} {W : World} {Post : Value → Prop} (hf : P.funcs[f]? = some fn) (hi : P.inits.idxOf? f = none) (hres : fn.results = #[.tmp t])
    (h : @CallsQ phC P f args (selfV W) (fun e w' => ∃ v, e = .returned v ∧ Post v ∧ Below (selfV W).heap.size (selfV W) w')) :
    ∃ M last o w' t', runNT P (M + 1) (solo (G (Frame.enter P f args .normal) []) W) #[] = (.ended o w', t') ∧ runN P M (solo (G (Frame.enter P f args .normal) []) W) = .next last ∧ step P last = .ended o w' ∧
      Go.Conc.Good P (fun v w' => Post v ∧ Below W.heap.size W w') last o w' t' := by
  obtain ⟨fn', c, hf', hb, hw⟩ := h
  obtain rfl : fn = fn' := Option.some.inj (hf.symm.trans hf')
  have hend : ∀ (a' : Act) (w' : World) (todo : List Item), a'.defers = [] → (∀ w1, Ext w' w1 → ∃ v, (results fn a'.tmps).run P w1 = .ok v w1 ∧ ∃ v', Ending.returned v = .returned v' ∧ Post v' ∧ Below (selfV W).heap.size (selfV W) w') →
      @Go3 phC P true (EndS P (fun v w => Post v ∧ Below (selfV W).heap.size (selfV W) w)) (G { (base f).at a' todo with mode := .returning } []) w' := by
    intro a' w' todo hd hr
    refine .stop fun v1 hx => ⟨rfl, fun w hvw => ?_⟩
    obtain ⟨v, h1, v', h2, h3, h4⟩ := hr v1 hx
    cases h2
    rw [run_results1 hres] at h1
    simp only [Result.ok.injEq, and_true] at h1
    subst h1
    refine ⟨_, #[], ?_, by simp, h3, h4.trans (hx.mono h4.size)⟩
    exact leave_bottom (b := base f) rfl hd hf hi (run_results1 hres _ w) (ev_results1 hres _ w)
  have key : @Go3 phC P true (EndS P (fun v w => Post v ∧ Below (selfV W).heap.size (selfV W) w)) (G (Frame.enter P f args .normal) []) (selfV W) := by
    rw [enter_at args hf hb]
    refine hw () (base f) [] [] _ (by simp [base]) fun e a' w' q => ?_
    cases e with
    | normal => exact .ctl rfl (fun _ => stepG_end) (hend a' w' [] q.1 q.2)
    | ret => exact fun todo => hend a' w' todo q.1 q.2
    | exit id => exact q.elim
    | goto l => exact q.elim
    | panic ch => exact q.elim
    | outgrown => exact q.elim
  obtain ⟨M, last, o, w', t', h1, h2, h3, h4⟩ := law_runs (selfV_view W) key
  have hsz : (selfV W).heap.size = W.heap.size := by simp [selfV]
  refine ⟨M, last, o, w', t', h1, h2, h3, Go.Conc.Good.mono h4 fun v hF => ?_⟩
  obtain ⟨v', Sh, ⟨p1, p2⟩, p3, p4, p5⟩ := hF
  exact ⟨p1, p5.below (selfV_view W) p3 p4 (hsz ▸ p2)⟩
theorem runs_to {P : Program} {f : FuncId} {fn : Func} {t : Tmp} {args : Array Value} {W : World} {Post : Value → Prop} {R : Value → World → Prop} (hf : P.funcs[f]? = some fn) (hi : P.inits.idxOf? f = none) (hres : fn.results = #[.tmp t])
    (hR : ∀ v w', Post v → Below W.heap.size W w' → R v w') (h : @CallsQ phC P f args (selfV W) (fun e w' => ∃ v, e = .returned v ∧ Post v ∧ Below (selfV W).heap.size (selfV W) w')) :
    ∃ M last o w' t', runNT P (M + 1) (solo (G (Frame.enter P f args .normal) []) W) #[] = (.ended o w', t') ∧ runN P M (solo (G (Frame.enter P f args .normal) []) W) = .next last ∧ step P last = .ended o w' ∧ Go.Conc.Good P R last o w' t' := by
  obtain ⟨M, last, o, w', t', h1, h2, h3, h4⟩ := runs_of hf hi hres h
  exact ⟨M, last, o, w', t', h1, h2, h3, Go.Conc.Good.mono h4 fun v hF => hR v w' hF.1 hF.2⟩
end Go.Proofs.Ytgeflnjjppgooaa.Y
