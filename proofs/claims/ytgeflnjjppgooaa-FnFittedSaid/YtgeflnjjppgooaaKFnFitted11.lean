/- Own texts of this claim, merged: Yl, Ym, Yn, Yo, Yp. -/
import Derived.Conc.LeavingOf
import Derived.Test.YtgeflnjjppgooaaKFnFitted10
namespace Go.Proofs.Ytgeflnjjppgooaa.Y
open Go Go.Conc Go.RowKit Go.Proofs.Ytgeflnjjppgooaa Go.Proofs.Ytgeflnjjppgooaa.Q
open Go.ConcR (KK wgBlock WgAt stA smA rd wr mk Payload DC0 g_of_ofEvents Bk bk_of_mute ofEvent_loc_mark ofEvent_mk)
open Go.ConcN (get_map_set get_map_set_same WgLive PayAt Has RW DWs AtR0 WSit WD upd upd_same upd_ne CTag RelBy Vc Ssum cnt phi pend sumTo sumTo_upd sumTo_upd_out phi_mono phi_retag bk_cell isW3 OpenSt Vc_upd Vc_le others_uncounted le_sumTo Deaf_still Deaf_absent allQuit_of AllQuit)
def RdF (v : World) (y b : Nat) : Prop := y = 0 ∧ Rdb v b
def WrF (v : World) (y : Nat) (ad : Addr) : Prop := y = 0 ∧ Liv v ad.block
/-- Goroutine 0 alone among leavers: it stands at a, and sees v. -/
structure Frame (P : Program) (Sh : Nat → Prop) (gs : Array Goroutine) (w : World) (t : Trace) (a : Goroutine) (v : World) : Prop where
  a : gs[0]? = some a
  view : View v w
  old : ∀ y g, 0 < y → gs[y]? = some g → ∃ q, QuitsD P q (Deaf t y) g
  ti : TI Sh (RdF v) (WrF v) (fun y => y = 0) (fun _ => none) (gs.size - 1) w.heap.size gs.size t
  dead : ∀ b, Sh b → ¬ Rdb v b
  shb : ∀ b, Sh b → b < w.heap.size
  deaf0 : Deaf t 0 = 0
  norel : ∀ a, NoRelease a t
/-- What may have turned since. -/
structure Since (v w : World) (Sh : Nat → Prop) (v' w' : World) (Sh' : Nat → Prop) : Prop where
  size : v.heap.size ≤ v'.heap.size
  keep : ∀ b, b < v.heap.size → ¬ Liv v b → w'.heap[b]? = w.heap[b]?
  liv : ∀ b, b < v.heap.size → Liv v b → Liv v' b ∨ Sh' b
  back : ∀ b, b < v.heap.size → (Liv v' b → Liv v b) ∧ (Sh' b → Sh b ∨ Liv v b)
  sh : ∀ b, Sh b → Sh' b
def Done (P : Program) (K : Goroutine → World → Prop) (v0 w0 : World) (Sh0 : Nat → Prop) (m : Machine) (t : Trace) : Prop := ∃ gs w sl a v Sh, m = crowd gs w sl ∧ Frame P Sh gs w t a v ∧ K a v ∧ Since v0 w0 Sh0 v w Sh
def selfO (b : Nat) : Obj → Obj
  | .view _ _ => .view ⟨b, 0, none⟩ 0
  | o => o
theorem br_self (b : Nat) (o : Obj) : BR b (some (selfO b o)) (some o) := by
  cases o <;> first | exact .view | exact .same (fun a t h => by cases h)
/-- What goroutine 0 sees behind the join. -/
def joinV (D : Sc) (w : World) : World := { w with heap := w.heap.mapIdx fun b o => if D.arr b = true then o else if b = D.Wg then killO o else match D.vb.heap[b]? with | some x => x | none => selfO b o }
theorem joinV_get (D : Sc) (w : World) (b : Nat) : (joinV D w).heap[b]? = (w.heap[b]?).map fun o => if D.arr b = true then o else if b = D.Wg then killO o else match D.vb.heap[b]? with | some x => x | none => selfO b o := by simp [joinV]
section
variable {P : Program} {D : Sc} {K : Goroutine → World → Prop} {G0 : Nat} {Sh : Nat → Prop} {wb : World} {s : St} {gs : Array Goroutine} {w w' : World} {sl : Option (Nat × Nat)} {t : Trace} {tag tag' : CTag} {e e' d0 d' : Nat} {k k' : Rk} {a a' : Goroutine} {es : Array Event}
theorem joinV_view (O : PhOk D) (hwi : WI D wb s.j s.σ s.st s.sm w) (hb : View D.vb wb) : View (joinV D w) w := by
  refine ⟨rfl, by simp [joinV], fun b => ?_⟩
  rw [joinV_get]
  cases hw : w.heap[b]? with
  | none => exact .same (fun a t h => by cases h)
  | some o =>
    simp only [Option.map_some]
    split
    · rename_i ha
      obtain ⟨_, c, ty, h1⟩ := O.arr b ha
      obtain ⟨d', h2, _⟩ := hwi.arrs b c ty _ ha h1
      rw [hw] at h2; cases h2
      exact .same (fun a t h => by cases h)
    · split
      · rename_i _ hW
        subst hW
        have := hwi.wg
        unfold WgAt wgBlock at this
        rw [hw] at this; cases this
        exact .dead
      · rename_i ha hW
        cases hv : D.vb.heap[b]? with
        | none => exact br_self b o
        | some x =>
          have hlt := (Array.getElem?_eq_some_iff.1 hv).1
          have h1 := hb.blk b
          rw [hv, ← hwi.old b hlt hW (by simpa using ha), hw] at h1
          exact h1
theorem joinV_join (O : PhOk D) (h : Com P D G0 Sh wb s gs w t d0) (hb : View D.vb wb) (hn : s.j = D.n) (hq : AllQuit s.j s.E) : Join D (joinV D w) := by
  have hbr := hb.rest
  have hwk : ∀ i, i < s.j → s.wk i = false := fun i hi => by
    cases hw : s.wk i with
    | false => rfl
    | true => have := (h.atWork hi hw).1; have := hq i hi; omega
  refine ⟨?_, ?_, ?_, ?_, fun b h1 h2 h3 => ?_, fun b c ty z h1 h2 => ?_, fun i hi => ⟨s.σ i, s.V (i + 1), h.fin i (by omega) (hwk i (by omega)), fun b hl => ?_, fun p hp => ?_⟩⟩
  · show w.tape = _; rw [h.wi.tape, hbr]
  · show w.os = _; rw [h.wi.os, hbr]
  · show w.output = _; rw [h.wi.output, hbr]
  · simp only [joinV, Array.size_mapIdx]; exact h.wi.size
  · rw [joinV_get, Array.getElem?_eq_getElem (show b < w.heap.size by have := h.wi.size; omega)]
    simp only [Option.map_some, h3, Bool.false_eq_true, if_false, if_neg h2, Array.getElem?_eq_getElem h1]
  · obtain ⟨d', h3, h4⟩ := h.wi.arrs b c ty z h1 h2
    exact ⟨d', by rw [joinV_get, h3]; simp [h1], h4⟩
  · have hx : i + 1 ≤ s.j := by omega
    have hB : D.vb.heap.size ≤ b := Nat.le_of_not_lt fun hlt => h.vi.low (i + 1) hx b hlt hl
    have hna : D.arr b = false := by
      cases ha : D.arr b with
      | false => rfl
      | true => exact absurd hl.rdb (h.vi.bad (i + 1) hx b (.inr (.inl ha)))
    have hnW : b ≠ D.Wg := fun e => h.vi.bad (i + 1) hx b (.inl e) hl.rdb
    obtain ⟨c, ty, z, e1, e2, e3⟩ := hl
    have hbk := (h.vi.view (i + 1) hx).blk b
    rw [e1] at hbk
    generalize hwb : w.heap[b]? = y at hbk
    rw [joinV_get, hwb, e1]
    cases hbk with
    | same _ => simp [hna, hnW, Array.getElem?_eq_none hB, selfO]
    | dead => exact absurd rfl e2
    | fro => exact absurd rfl e3
  · obtain ⟨h1, h2⟩ := h.wi.sig i (by omega) p hp
    rw [← h2]
    refine cell_same ?_
    rw [joinV_get]
    cases hw : w.heap[p.1.block]? with
    | none => rfl
    | some o => simp [(O.own i _ h1).1]
theorem joinV_since (O : PhOk D) (h : Com P D G0 Sh wb s gs w t d0) (hdead : ∀ b, ShW D Sh b → ¬ Rdb (joinV D w) b) : Since D.vb wb Sh (joinV D w) w (ShW D Sh) := by
  have hWl : Liv D.vb D.Wg := ⟨_, _, _, O.wg, by simp, by simp⟩
  have other : ∀ b, b < D.vb.heap.size → b ≠ D.Wg → D.arr b = false → (joinV D w).heap[b]? = D.vb.heap[b]? := fun b h1 h2 h3 => by
    rw [joinV_get, Array.getElem?_eq_getElem (show b < w.heap.size by have := h.wi.size; omega)]
    simp only [Option.map_some, h3, Bool.false_eq_true, if_false, if_neg h2, Array.getElem?_eq_getElem h1]
  have arrl : ∀ b, D.arr b = true → Liv (joinV D w) b := fun b hb => by
    obtain ⟨_, c, ty, h1⟩ := O.arr b hb
    obtain ⟨c2, ty2, z2, h2, h3, _⟩ := O.arr0 b hb
    rw [h1] at h2; cases h2
    obtain ⟨d', h4, h5⟩ := h.wi.arrs b c ty _ hb h1
    have hne : d'.size ≠ 0 := fun e => h3 (Array.eq_empty_of_size_eq_zero (h5.symm.trans e))
    refine ⟨d', ty, (0, 0), by rw [joinV_get, h4]; simp [hb], ?_, ?_⟩
    · rintro rfl; simp at hne
    · intro e; exact hne (congrArg Prod.snd e).symm
  refine ⟨by simp only [joinV, Array.size_mapIdx]; exact h.wi.size, fun b hb hn => ?_, fun b hb hl => ?_, fun b hb => ⟨fun hl => ?_, fun hs => ?_⟩, fun b hb => .inr hb⟩
  · refine h.wi.old b hb (fun e => hn (e ▸ hWl)) ?_
    cases ha : D.arr b with
    | false => rfl
    | true => exact absurd (O.arr0 b ha) hn
  · by_cases e : b = D.Wg
    · exact .inr (.inl e)
    · cases ha : D.arr b with
      | true => exact .inl (arrl b ha)
      | false => exact .inl ((liv_of_eq (other b hb e ha)).2 hl)
  · by_cases e : b = D.Wg
    · exact absurd hl.rdb (hdead b (.inl e))
    · cases ha : D.arr b with
      | true => exact O.arr0 b ha
      | false => exact (liv_of_eq (other b hb e ha)).1 hl
  · rcases hs with rfl | hs
    · exact .inr hWl
    · exact .inl hs
/-- THE JOIN. -/
theorem joined (O : PhOk D) (h : Com P D G0 Sh wb s gs w t 0) (hb : View D.vb wb) (hsd : ∀ b, Sh b → ¬ Rdb D.vb b) (hn : s.j = D.n) (hq : AllQuit s.j s.E) (hK : ∀ v', Join D v' → K a' v') :
    Done P K D.vb wb Sh (crowd ((gs.map (woken P a a' w)).setIfInBounds 0 a') w sl) (t ++ MemOp.ofEvents 0 a.frame.fn a.frame.place #[mk (.acquire (stA D.Wg))]) := by
  have g0 := h.g0
  have hview := joinV_view (s := s) O h.wi hb
  have e1 : MemOp.ofEvents 0 a.frame.fn a.frame.place #[mk (.acquire (stA D.Wg))] = #[{ g := 0, fn := a.frame.fn, pos := a.frame.place, act := .mark (.acquire (stA D.Wg)) }] := by rw [ofEvents_eq]; simp [ofEvent_mk]
  have hy : (t ++ #[({ g := 0, fn := a.frame.fn, pos := a.frame.place, act := .mark (.acquire (stA D.Wg)) } : MemOp)])[t.size]? = some { g := 0, fn := a.frame.fn, pos := a.frame.place, act := .mark (.acquire (stA D.Wg)) } := by simp
  have hEv : ∀ x ∈ #[mk (.acquire (stA D.Wg))], EvS D 0 x := by
    intro x hx
    simp at hx; subst hx
    exact evS_mk (by simp) (by show D.Wg < _; omega) rfl
  have hti := h.tiS (w' := w) (fn := a.frame.fn) (pos := a.frame.place) O (.inl rfl) rfl hEv (.inl rfl)
  have hnr : ∀ ad, NoRelease ad (t ++ MemOp.ofEvents 0 a.frame.fn a.frame.place #[mk (.acquire (stA D.Wg))]) := fun ad => (h.norel ad).app (norelA fun x hx => (hEv x hx).2.1)
  have hrel : ∀ i, i < s.j → ∃ r, s.rel (G0 + i) = some r ∧ RelBy (stA D.Wg) t (G0 + i) r := fun i hi => h.rel i hi (by rw [hq i hi]; omega)
  have hall := hti.join (a := stA D.Wg) (q := t.size) (by rw [e1, act?_of hy]) (by rw [e1]; simp [Trace.g?]) (by rw [e1]; exact ⟨0, by simp [Trace.g?], by rw [deaf_old (Nat.le_refl _)]; exact h.deaf0⟩) (hnr _) (fun x i hx hg => by
    obtain ⟨z, hz, hzg⟩ := Option.map_eq_some_iff.1 hg
    have hlt := hti.gs z (Array.mem_of_getElem? hz)
    obtain ⟨i', rfl⟩ : ∃ i', x = G0 + i' := ⟨x - G0, by omega⟩
    obtain ⟨r, h1, h2⟩ := hrel i' (by omega)
    exact ⟨r, h1, h2.appOther ops_g (by omega), lt_of_act? h2.act⟩)
  have hdead : ∀ b, ShW D Sh b → ¬ Rdb (joinV D w) b := by
    rintro b hs ⟨c, ty, z, h1, h2⟩
    rw [joinV_get] at h1
    obtain ⟨o, ho, h3⟩ := Option.map_eq_some_iff.1 h1
    rcases hs with rfl | hs
    · have hna : D.arr D.Wg = false := by
        cases hx : D.arr D.Wg with
        | false => rfl
        | true => exact absurd rfl (O.arr _ hx).1
      simp only [hna, Bool.false_eq_true, if_false, if_true] at h3
      cases o <;> simp [killO] at h3
      exact absurd h3.1 h2
    · have hna := h.shA b hs
      have hlt := h.shb b hs
      simp only [hna, Bool.false_eq_true, if_false] at h3
      split at h3
      · cases o <;> simp [killO] at h3
        exact absurd h3.1 h2
      · rw [Array.getElem?_eq_getElem hlt] at h3
        exact hsd b hs ⟨c, ty, z, by rw [Array.getElem?_eq_getElem hlt, ← h3], h2⟩
  have hsz : ((gs.map (woken P a a' w)).setIfInBounds 0 a').size = G0 + s.j := by simp [h.size]
  refine ⟨_, w, sl, a', joinV D w, ShW D Sh, rfl, ⟨get_map_set_same _ _ _ (by rw [h.size]; omega), hview, fun y g hy hg => ?_, ?_, hdead, fun b hs => h.badlt O b (hs.imp id .inr), ?_, hnr⟩, hK _ (joinV_join O h hb hn hq), joinV_since O h hdead⟩
  · rw [get_map_set _ _ _ _ (by omega)] at hg
    obtain ⟨z, hz, rfl⟩ := Option.map_eq_some_iff.1 hg
    have hlt : y < G0 + s.j := by have := (Array.getElem?_eq_some_iff.1 hz).1; rw [h.size] at this; exact this
    rw [Deaf_other t (by omega) _ ops_g]
    rcases Nat.lt_or_ge y G0 with h1 | h1
    · obtain ⟨q, _, h2⟩ := h.old y z hy h1 hz
      exact ⟨q, by rw [woken_quitsD h2]; exact h2⟩
    · obtain ⟨i, rfl⟩ : ∃ i, y = G0 + i := ⟨y - G0, by omega⟩
      have hi : i < s.j := by omega
      obtain ⟨z', hz', hs⟩ := h.wks i hi
      rw [hz] at hz'; cases hz'
      have hq1 := hq i hi
      rw [h.deafW i hi]
      have hqq : ∃ q, QuitsD P q (s.E i).deaf z := by
        letI := D.pay
        rcases hs with ⟨_, h7, _⟩ | ⟨_, m, _, ⟨h7, _⟩ | ⟨_, hs⟩⟩
        · omega
        · omega
        · exact ⟨m, hs.quits hq1⟩
      obtain ⟨q, hqq⟩ := hqq
      exact ⟨q, by rw [woken_quitsD hqq]; exact hqq⟩
  · rw [hsz]
    exact hti.rest hall (fun y b hr => ⟨hr.1, fun hs => hdead b hs hr.2⟩) (fun y ad hr => ⟨hr.1, fun hs => hdead _ hs hr.2.rdb⟩) (fun y hy => .inl hy)
  · rw [Deaf_own, h.deaf0]; rfl
end
end Go.Proofs.Ytgeflnjjppgooaa.Y

namespace Go.Proofs.Ytgeflnjjppgooaa.Y
open Go Go.Conc Go.RowKit Go.Proofs.Ytgeflnjjppgooaa Go.Proofs.Ytgeflnjjppgooaa.Q
open Go.ConcR (KK wgBlock WgAt stA smA rd wr mk Payload DC0 g_of_ofEvents Bk bk_of_mute ofEvent_loc_mark ofEvent_mk)
open Go.ConcN (get_map_set get_map_set_same WgLive PayAt Has RW DWs AtR0 WSit WD upd upd_same upd_ne CTag RelBy Vc Ssum cnt phi pend sumTo sumTo_upd sumTo_upd_out phi_mono phi_retag bk_cell isW3 OpenSt Vc_upd Vc_le others_uncounted le_sumTo Deaf_still Deaf_absent allQuit_of AllQuit exists_counted isOpen)
section
variable {P : Program} {D : Sc} {K : Goroutine → World → Prop} {G0 : Nat} {Sh : Nat → Prop} {wb : World} {s : St} {gs : Array Goroutine} {w w' : World} {sl : Option (Nat × Nat)} {t : Trace} {tag tag' : CTag} {e e' d0 d' : Nat} {k k' : Rk} {a a' : Goroutine} {es : Array Event}
theorem evS1 {m : Mark} (h : m = .disable ∨ m = .enable) : ∀ x ∈ #[mk m], EvS D 0 x := by
  intro x hx
  simp at hx; subst hx
  rcases h with rfl | rfl <;> exact evS_mk (by simp) trivial rfl
theorem evSr : ∀ x ∈ #[rd (stA D.Wg)], EvS D 0 x := by
  intro x hx
  simp at hx; subst hx
  exact evS_at _ _ rfl
theorem evSrw : ∀ x ∈ #[rd (stA D.Wg), wr (stA D.Wg)], EvS D 0 x := by
  intro x hx
  simp at hx
  rcases hx with rfl | rfl <;> exact evS_at _ _ rfl
theorem evSsaid {m : Mark} (h : m = .read (smA D.Wg) ∨ m = .write (smA D.Wg)) : ∀ x ∈ #[mk m], EvS D 0 x := by
  intro x hx
  simp at hx; subst hx
  exact evS_said (smA D.Wg) rfl rfl m h
/-- At the call of Add. -/
theorem cKd (O : PhOk D) (ha : gs[0]? = some a) (h : Com P D G0 Sh wb s gs w t 0) (hmode : Go.ConcN.Mode s.j s.E tag s.st s.sm) {r m : Nat} {vs : World} (hr : r < D.n) (hj : s.j = D.n - (r + 1)) (hx : Ext vs (s.V 0)) (hg : Goes P true (RL D.ty D.Wg) DC0 (LKd P D.ty D.Wg (AftA P D K r vs)) m a w)
    (ht : tag = .sp (r + 1) 6 ∨ (tag = .sp (r + 1) 5 ∧ e = 0 ∧ k = nat m)) : Falls P D K G0 Sh wb gs w sl t 0 (mu D s tag e k) := by
  have ho : isOpen tag := by rcases ht with rfl | ⟨rfl, _⟩ <;> trivial
  have hp : pend tag = 0 := by rcases ht with rfl | ⟨rfl, _⟩ <;> rfl
  have hphi : phi D.n (Vc s.j s.E) tag = 8 * D.n + 16 + 16 * (r + 1) + 6 ∨ phi D.n (Vc s.j s.E) tag = 8 * D.n + 16 + 16 * (r + 1) + 5 := by rcases ht with rfl | ⟨rfl, _⟩ <;> simp [phi]
  rcases Goes.cases hg with hstop | ⟨m', rfl, hstep⟩
  · obtain ⟨_, a', hgo, m₂, hk⟩ := hstop w (rl_refl w)
    refine cBook O ha h hgo (.refl D.Wg w) h.wi.wg (evS1 (.inl rfl)) rfl (tag' := .sp (r + 1) 4) (e' := 0) (k' := nat m₂) (by rw [hj]; exact .s4 hr hx hk) (hmode.reopen ho trivial (by rw [hp]; rfl) (by simp)) (.inl ?_)
    rcases hphi with e1 | e1 <;> rw [e1] <;> simp only [phi] <;> omega
  · obtain ⟨a', w', es, hgo, ⟨rfl, rfl⟩, hg'⟩ := hstep w (rl_refl w)
    refine cIdle O ha h hgo (tag' := .sp (r + 1) 5) (e' := 0) (k' := nat m') (by rw [hj]; exact .s5 hr hx hg') (hmode.reopen ho trivial (by rw [hp]; rfl) (by simp)) ?_
    rcases ht with rfl | ⟨rfl, rfl, rfl⟩
    · exact .inl (by simp only [phi]; omega)
    · exact .inr ⟨rfl, dn_nat m'⟩
/-- At the call of Wait. -/
theorem cKdW (O : PhOk D) (ha : gs[0]? = some a) (h : Com P D G0 Sh wb s gs w t 0) (hmode : Go.ConcN.Mode s.j s.E tag s.st s.sm) {m : Nat} {A : Goroutine → World → Prop} (hA : AOk P D K A) (hj : s.j = D.n) (hg : Goes P true (RL D.ty D.Wg) DC0 (LKdW P D.ty D.Wg A) m a w)
    (ht : tag = .sp 0 6 ∨ (tag = .kd ∧ e = 0 ∧ k = nat m)) : Falls P D K G0 Sh wb gs w sl t 0 (mu D s tag e k) := by
  have ho : isOpen tag := by rcases ht with rfl | ⟨rfl, _⟩ <;> trivial
  have hp : pend tag = 0 := by rcases ht with rfl | ⟨rfl, _⟩ <;> rfl
  have hv := Vc_le s.j s.E
  have hphi : phi D.n (Vc s.j s.E) tag = 8 * D.n + 22 ∨ phi D.n (Vc s.j s.E) tag = 8 * D.n + 7 := by rcases ht with rfl | ⟨rfl, _⟩ <;> simp [phi]
  rcases Goes.cases hg with hstop | ⟨m', rfl, hstep⟩
  · obtain ⟨_, a', hgo, m₂, hk⟩ := hstop w (rl_refl w)
    refine cBook O ha h hgo (.refl D.Wg w) h.wi.wg (evS1 (.inl rfl)) rfl (tag' := .anch) (e' := 0) (k' := nat m₂) (by rw [hj]; exact .anch hA hk) (hmode.reopen ho trivial (by rw [hp]; rfl) (by simp)) (.inl ?_)
    rcases hphi with e1 | e1 <;> rw [e1] <;> simp only [phi] <;> omega
  · obtain ⟨a', w', es, hgo, ⟨rfl, rfl⟩, hg'⟩ := hstep w (rl_refl w)
    refine cIdle O ha h hgo (tag' := .kd) (e' := 0) (k' := nat m') (by rw [hj]; exact .kd hA hg') (hmode.reopen ho trivial (by rw [hp]; rfl) (by simp)) ?_
    rcases ht with rfl | ⟨rfl, rfl, rfl⟩
    · exact .inl (by simp only [phi]; omega)
    · exact .inr ⟨rfl, dn_nat m'⟩
/-- The load in Wait. -/
theorem cW1 (O : PhOk D) (ha : gs[0]? = some a) (h : Com P D G0 Sh wb s gs w t 1) (hmode : Go.ConcN.Mode s.j s.E tag s.st s.sm) {m : Nat} {A : Goroutine → World → Prop} (hA : AOk P D K A) (hj : s.j = D.n) (hg : Goes P true (RL D.ty D.Wg) DC0 (LW1 P D.ty D.Wg (AftW D K) A) m a w)
    (ht : (tag = .anch) ∨ (tag = .w1 ∧ e = 0 ∧ k = nat m)) : Falls P D K G0 Sh wb gs w sl t 0 (mu D s tag e k) := by
  have ho : isOpen tag := by rcases ht with rfl | ⟨rfl, _⟩ <;> trivial
  have hp : pend tag = 0 := by rcases ht with rfl | ⟨rfl, _⟩ <;> rfl
  have hv := Vc_le s.j s.E
  have hO := O.n
  have hphi : phi D.n (Vc s.j s.E) tag = 8 * (Vc s.j s.E) + 6 ∨ phi D.n (Vc s.j s.E) tag = 8 * (Vc s.j s.E) + 5 := by rcases ht with rfl | ⟨rfl, _⟩ <;> simp [phi]
  rcases Goes.cases hg with hstop | ⟨m', rfl, hstep⟩
  · obtain ⟨_, hall⟩ := hstop w (rl_refl w)
    obtain ⟨hop, e1, e2, _⟩ := hmode.open_inv ho
    have hwg := h.wi.wg
    rw [e1, e2, hp, Nat.add_zero] at hwg
    obtain ⟨a', hgo, h0, hne⟩ := hall (Vc s.j s.E) (by omega) hwg
    by_cases hv0 : Vc s.j s.E = 0
    · obtain ⟨m₂, hk⟩ := h0 hv0
      refine cBook O ha h hgo (.refl D.Wg w) h.wi.wg evSr rfl (tag' := .ke) (e' := 0) (k' := nat m₂) (by rw [hj]; exact .ke hk) ?_ (.inl ?_)
      · rw [e1, e2, hp, hv0]
        have z : (((0 + 0 : Nat) : Int)) * KK = 0 := by simp
        rw [z]
        exact .fin trivial (allQuit_of hop hv0)
      · rcases hphi with e1 | e1 <;> rw [e1] <;> simp only [phi] <;> omega
    · obtain ⟨m₂, hk⟩ := hne hv0
      refine cBook O ha h hgo (.refl D.Wg w) h.wi.wg evSr rfl (tag' := .w2 (Vc s.j s.E)) (e' := 0) (k' := nat m₂) (by rw [hj]; rw [hj] at hk; exact .w2 hA hk) (hmode.reopen ho trivial (by rw [hp]; rfl) (fun vs e => by cases e; omega)) (.inl ?_)
      rcases hphi with e1 | e1 <;> rw [e1] <;> simp only [phi] <;> omega
  · obtain ⟨a', w', es, hgo, ⟨rfl, rfl⟩, hg'⟩ := hstep w (rl_refl w)
    refine cIdle O ha h hgo (tag' := .w1) (e' := 0) (k' := nat m') (by rw [hj]; exact .w1 hA hg') (hmode.reopen ho trivial (by rw [hp]; rfl) (by simp)) ?_
    rcases ht with rfl | ⟨rfl, rfl, rfl⟩
    · exact .inl (by simp only [phi]; omega)
    · exact .inr ⟨rfl, dn_nat m'⟩
/-- The go statement. -/
theorem cGo (ha : gs[0]? = some a) (h : Com P D G0 Sh wb s gs w t 0) {r : Nat} (hr : r < D.n) (hj : s.j = D.n - (r + 1)) (hmode : Go.ConcN.Mode s.j s.E (.sp (r + 1) 1) s.st s.sm) (ht : tag = .sp (r + 1) 1)
    (hs : GoStop P D (D.n - (r + 1)) (fun g v => @Go3 noPh P true (SpStop P D K r) g v) a (s.V 0)) : Falls P D K G0 Sh wb gs w sl t 0 (mu D s tag e k) := by
  subst ht
  obtain ⟨_, a', child, hsp, _, ⟨rr, hw⟩, hnext⟩ := hs
  obtain ⟨rk, hrk⟩ := GoW.of rr hw
  obtain ⟨k2, hk2⟩ := GoR.of hnext
  obtain ⟨ho, e1, e2, _⟩ := hmode.open_inv trivial
  have hrun := runT_crowd_spawn (P := P) (sl := sl) (i := 0) ha (by simpa using hsp w (h.vi.view 0 (by omega)))
  rw [h.size] at hrun
  have hc := h.spawn (a' := a') (child := child) (fn := a.frame.fn) (fn' := child.frame.fn) (pos := a.frame.place) (pos' := a.frame.place) (r := rk) (by rw [hj]; exact hrk)
  have eV : Vc (s.j + 1) (Go.ConcN.upd s.E s.j ⟨7, 0, 0⟩) = Vc s.j s.E + 1 := by
    simp only [Vc, sumTo, upd_same]
    rw [sumTo_upd_out s.E _ cnt (Nat.le_refl _)]; rfl
  have eS : Ssum (s.j + 1) (Go.ConcN.upd s.E s.j ⟨7, 0, 0⟩) = Ssum s.j s.E + 7 := by
    simp only [Ssum, sumTo, upd_same]
    rw [sumTo_upd_out s.E _ WD.stage (Nat.le_refl _)]
  have eB : sumTo (s.j + 1) (fun i => bit (Go.ConcN.upd s.wk s.j true i)) = sumTo s.j (fun i => bit (s.wk i)) + 1 := by
    simp only [sumTo, upd_same]
    rw [sumTo_upd_out s.wk _ bit (Nat.le_refl _)]; rfl
  refine ⟨_, _, _, hrun, ?_, _, _, w, sl, .sp r 6, 0, k2, 0, a', rfl, ?_, ?_, hc, ?_, rfl⟩
  · refine Lt.num ?_
    simp only [eS, eB, phi]
    omega
  · have := h.g0
    rw [Array.getElem?_push_lt (by simp [h.size]; omega), ← Array.getElem?_eq_getElem]
    exact Array.getElem?_setIfInBounds_self_of_lt (by rw [h.size]; omega)
  · show CSitM P D K (.sp r 6) (s.j + 1) 0 k2 0 a' (if 0 = 0 ∨ 0 = s.j + 1 then frz (s.V 0) else s.V 0) w
    rw [if_pos (.inl rfl), hj, show D.n - (r + 1) + 1 = D.n - r by omega]
    exact .s6 (by omega) hk2
  · simp only [e1, e2]
    have : ((Vc s.j s.E + pend (.sp (r + 1) 1) : Nat) : Int) * KK = ((Vc (s.j + 1) (Go.ConcN.upd s.E s.j ⟨7, 0, 0⟩) + pend (.sp r 6) : Nat) : Int) * KK := by rw [eV]; simp [pend]
    rw [this]
    refine .opn trivial (fun i hi => ?_) (by simp)
    by_cases ei : i = s.j
    · subst ei; rw [upd_same]; simp
    · rw [upd_ne s.E _ ei]; exact ho i (by omega)
set_option maxHeartbeats 1600000 in
/-- WHATEVER STEP OF THE STARTER's. -/
theorem stepCaller (O : PhOk D) (hb : View D.vb wb) (hsd : ∀ b, Sh b → ¬ Rdb D.vb b) (ha : gs[0]? = some a) (h : Com P D G0 Sh wb s gs w t d0) (hcs : CSitM P D K tag s.j e k d0 a (s.V 0) w) (hmode : Go.ConcN.Mode s.j s.E tag s.st s.sm) (hrun : a.status = .running) :
    Falls P D K G0 Sh wb gs w sl t 0 (mu D s tag e k) ∨ ∃ m₁ ops, runT P (crowd gs w sl) 0 = (.next m₁, ops) ∧ Done P K D.vb wb Sh m₁ (t ++ ops) := by
  have hVj := Vc_le s.j s.E
  have hO := O.n
  generalize hjj : s.j = jj at hcs
  generalize hvv : s.V 0 = vv at hcs
  cases hcs with
  | s6 hr hg =>
    rename_i r
    rcases hg.cases with hstop | ⟨_, a', v', k', hd, hst, hn⟩
    · cases r with
      | zero =>
        obtain ⟨_, A, hA1, hA2, hw⟩ := hstop
        obtain ⟨m, hg⟩ := hw w h.wi.live
        exact .inl (cKdW O ha h hmode ⟨hA1, hA2⟩ (by omega) hg (.inl rfl))
      | succ r =>
        obtain ⟨_, hw⟩ := hstop
        obtain ⟨m, hg⟩ := hw w h.wi.live
        exact .inl (cKd O ha h hmode (by omega) hjj (vs := vv) (by rw [hvv]; exact Ext.refl _) hg (.inl rfl))
    · subst hvv
      exact .inl (cView O ha h hst hmode (fun w' => by rw [hjj]; exact .s6 hr hn) (.inr ⟨rfl, hd⟩))
  | s5 hr hx hg => exact .inl (cKd O ha h hmode hr hjj (by rw [hvv]; exact hx) hg (.inr ⟨rfl, rfl, rfl⟩))
  | s4 hr hx hg =>
    rename_i r m vs
    rcases Goes.cases hg with hstop | ⟨m', rfl, hstep⟩
    · obtain ⟨_, hall⟩ := hstop w (rl_refl w)
      obtain ⟨ho, e1, e2, _⟩ := hmode.open_inv trivial
      have hwg := h.wi.wg
      rw [e1, e2] at hwg
      obtain ⟨a', hgo, h0, hne⟩ := hall (Vc s.j s.E) (by omega) (by simpa [pend] using hwg)
      have hm3 : ∀ q, q = 3 ∨ q = 2 → Go.ConcN.Mode s.j s.E (.sp (r + 1) q) ((((Vc s.j s.E : Nat) : Int) + 1) * KK) 0 := fun q hq => by
        have e : (((Vc s.j s.E : Nat) : Int) + 1) * KK = ((Vc s.j s.E + pend (.sp (r + 1) q) : Nat) : Int) * KK := by rcases hq with rfl | rfl <;> simp [pend]
        rw [e]
        exact .opn trivial ho (by simp)
      by_cases hv0 : Vc s.j s.E = 0
      · obtain ⟨m₂, hk⟩ := h0 hv0
        exact .inl (cBook O ha h hgo (aside_setCell w (stA D.Wg) _) (st' := (((Vc s.j s.E : Nat) : Int) + 1) * KK) (sm' := 0) (hwg.setSt _) evSrw (d' := 1) (by simp [deafBehind, rd, wr]) (tag' := .sp (r + 1) 3) (e' := 0) (k' := nat m₂) (by have q := CSitM.s3 (v := vv) hr hx hk; rw [← hjj, ← hvv] at q; exact q) (hm3 3 (.inl rfl)) (.inl (by simp only [phi]; omega)))
      · obtain ⟨m₂, hk⟩ := hne hv0
        exact .inl (cBook O ha h hgo (aside_setCell w (stA D.Wg) _) (st' := (((Vc s.j s.E : Nat) : Int) + 1) * KK) (sm' := 0) (hwg.setSt _) evSrw (d' := 1) (by simp [deafBehind, rd, wr]) (tag' := .sp (r + 1) 2) (e' := 0) (k' := nat m₂) (by have q := CSitM.s2 (v := vv) hr hx hk; rw [← hjj, ← hvv] at q; exact q) (hm3 2 (.inr rfl)) (.inl (by simp only [phi]; omega)))
    · obtain ⟨a', w', es, hgo, ⟨rfl, rfl⟩, hg'⟩ := hstep w (rl_refl w)
      exact .inl (cIdle O ha h hgo (by rw [hjj, hvv]; exact .s4 hr hx hg') hmode (.inr ⟨rfl, dn_nat m'⟩))
  | s3 hr hx hg =>
    rename_i r m vs
    rcases Goes.cases hg with hstop | ⟨m', rfl, hstep⟩
    · obtain ⟨_, a', hgo, m₂, hk⟩ := hstop w (rl_refl w)
      exact .inl (cBook O ha h hgo (.refl D.Wg w) h.wi.wg (evSsaid (.inl rfl)) rfl (tag' := .sp (r + 1) 2) (e' := 0) (k' := nat m₂) (by rw [hjj, hvv]; exact .s2 hr hx hk) (hmode.reopen trivial trivial rfl (by simp)) (.inl (by simp only [phi]; omega)))
    · obtain ⟨a', w', es, hgo, ⟨rfl, rfl⟩, hg'⟩ := hstep w (rl_refl w)
      exact .inl (cIdle O ha h hgo (by rw [hjj, hvv]; exact .s3 hr hx hg') hmode (.inr ⟨rfl, dn_nat m'⟩))
  | s2 hr hx hg =>
    rename_i r m vs
    rcases Goes.cases hg with hstop | ⟨m', rfl, hstep⟩
    · obtain ⟨_, a', hgo, hk⟩ := hstop w (rl_refl w)
      obtain ⟨k2, hk2⟩ := GoR.of hk
      exact .inl (cBook O ha h hgo (.refl D.Wg w) h.wi.wg (evS1 (.inr rfl)) rfl (tag' := .sp (r + 1) 1) (e' := 0) (k' := k2) (by rw [hjj, hvv]; exact .s1 hr (hk2.ext hx)) (hmode.reopen trivial trivial rfl (by simp)) (.inl (by simp only [phi]; omega)))
    · obtain ⟨a', w', es, hgo, ⟨rfl, rfl⟩, hg'⟩ := hstep w (rl_refl w)
      exact .inl (cIdle O ha h hgo (by rw [hjj, hvv]; exact .s2 hr hx hg') hmode (.inr ⟨rfl, dn_nat m'⟩))
  | s1 hr hg =>
    rename_i r
    rcases hg.cases with hstop | ⟨_, a', v', k', hd, hst, hn⟩
    · exact .inl (cGo ha h hr hjj hmode rfl (by rw [hvv]; exact hstop))
    · subst hvv
      exact .inl (cView O ha h hst hmode (fun w' => by rw [hjj]; exact .s1 hr hn) (.inr ⟨rfl, hd⟩))
  | kd hA hg => exact .inl (cKdW O ha h hmode hA hjj hg (.inr ⟨rfl, rfl, rfl⟩))
  | anch hA hg =>
    rcases Goes.cases hg with hstop | ⟨m', rfl, hstep⟩
    · obtain ⟨m₂, hk⟩ := hA.round a w (hstop w (rl_refl w))
      exact .inl (cW1 O ha h hmode hA hjj hk (.inl rfl))
    · obtain ⟨a', w', es, hgo, ⟨rfl, rfl⟩, hg'⟩ := hstep w (rl_refl w)
      exact .inl (cIdle O ha h hgo (by rw [hjj]; exact .anch hA hg') hmode (.inr ⟨rfl, dn_nat m'⟩))
  | w1 hA hg => exact .inl (cW1 O ha h hmode hA hjj hg (.inr ⟨rfl, rfl, rfl⟩))
  | w2 hA hg =>
    rename_i vs m A
    rcases Goes.cases hg with hstop | ⟨m', rfl, hstep⟩
    · obtain ⟨_, hall⟩ := hstop w (rl_refl w)
      obtain ⟨ho, e1, e2, hw2⟩ := hmode.open_inv trivial
      have hwg := h.wi.wg
      rw [e1, e2] at hwg
      obtain ⟨hle, h1⟩ := hw2 vs rfl
      obtain ⟨hhit, hmiss⟩ := hall (Vc s.j s.E) (by omega) (by simpa [pend] using hwg)
      by_cases ev : Vc s.j s.E = vs
      · obtain ⟨a', hgo, m₂, m₃, hk⟩ := hhit ev
        have hrg : Go.ConcN.Mode s.j s.E .w3 (((Vc s.j s.E : Nat) : Int) * KK + 1) 0 := .reg trivial ho (by omega)
        exact .inl (cBook O ha h hgo (aside_setCell w (stA D.Wg) _) (st' := ((Vc s.j s.E : Nat) : Int) * KK + 1) (sm' := 0) (hwg.setSt _) evSrw (d' := 1) (by simp [deafBehind, rd, wr]) (tag' := .w3) (e' := 1) (k' := nat m₂) (by have q := CSitM.wr (v := s.V 0) hk; rw [← hjj] at q; exact q) hrg (.inl (by simp only [phi]; omega)))
      · obtain ⟨a', hgo, m₂, hk⟩ := hmiss ev
        exact .inl (cBook O ha h hgo (.refl D.Wg w) h.wi.wg evSr rfl (tag' := .anch) (e' := 0) (k' := nat m₂) (by rw [hjj]; exact .anch hA hk) (hmode.reopen trivial trivial rfl (by simp)) (.inl (by simp only [phi]; omega)))
    · obtain ⟨a', w', es, hgo, ⟨rfl, rfl⟩, hg'⟩ := hstep w (rl_refl w)
      exact .inl (cIdle O ha h hgo (by rw [hjj]; exact .w2 hA hg') hmode (.inr ⟨rfl, dn_nat m'⟩))
  | wr hg =>
    rename_i m m3
    rcases Goes.cases hg with hstop | ⟨m', rfl, hstep⟩
    · obtain ⟨_, a', hgo, hk⟩ := hstop w (rl_refl w)
      exact .inl (cBook O ha h hgo (.refl D.Wg w) h.wi.wg (evSsaid (.inr rfl)) rfl (tag' := .w3) (e' := 0) (k' := nat (m3 + 1)) (by rw [hjj]; exact .w3 hk) hmode (.inl (by omega)))
    · obtain ⟨a', w', es, hgo, ⟨rfl, rfl⟩, hg'⟩ := hstep w (rl_refl w)
      exact .inl (cIdle O ha h hgo (by rw [hjj]; exact .wr hg') hmode (.inr ⟨rfl, dn_nat m'⟩))
  | w3 hg =>
    rcases Goes.cases hg with hstop | ⟨m', rfl, hstep⟩
    · rename_i m
      obtain ⟨_, hoff, hblk, htake⟩ := hstop w (rl_refl w)
      have hwg := h.wi.wg
      have toBlk : (∃ st, WgAt D.ty D.Wg w st 0) → Go.ConcN.Mode s.j s.E .blk s.st s.sm → Falls P D K G0 Sh wb gs w sl t 0 (mu D s .w3 0 (nat (m + 1))) := fun hz hm =>
        cIdle O ha h (hblk hz) (tag' := .blk) (e' := 0) (k' := nat m) (by rw [hjj]; exact .blk hstop) hm (.inr ⟨rfl, dn_nat m⟩)
      generalize hes : s.st = stv at hmode hwg toBlk
      generalize hem : s.sm = smv at hmode hwg toBlk
      cases hmode with
      | opn h1 _ _ => exact h1.elim
      | reg h1 h2 h3 => exact .inl (toBlk ⟨_, hwg⟩ (.reg trivial h2 h3))
      | last L h1 h2 h3 h4 => exact .inl (toBlk ⟨_, hwg⟩ (.last L trivial h2 h3 h4))
      | sema h2 =>
        obtain ⟨a', hgo, m₂, hk⟩ := htake hwg
        exact .inl (cBook O ha h hgo (aside_setCell w (smA D.Wg) _) (hwg.setSm 0) evS_sem (by simp [deafBehind, semEvents]) (tag' := .w4) (e' := 0) (k' := nat m₂) (d' := 1) (by rw [hjj]; exact .w4 hk) (.fin trivial h2) (.inl (by simp only [phi]; omega)))
      | fin h1 _ => exact h1.elim
    · obtain ⟨a', w', es, hgo, ⟨rfl, rfl⟩, hg'⟩ := hstep w (rl_refl w)
      exact .inl (cIdle O ha h hgo (by rw [hjj]; exact .w3 hg') hmode (.inr ⟨rfl, dn_nat _⟩))
  | blk hg => simp at hrun
  | w4 hg =>
    rcases Goes.cases hg with hstop | ⟨m', rfl, hstep⟩
    · obtain ⟨_, hx⟩ := hstop w (rl_refl w)
      obtain ⟨hq, e1, e2⟩ := hmode.fin_inv trivial
      have hwg := h.wi.wg
      rw [e1, e2] at hwg
      obtain ⟨a', hgo, m₂, hk⟩ := hx hwg
      exact .inl (cBook O ha h hgo (.refl D.Wg w) hwg evSr rfl (tag' := .ke) (e' := 0) (k' := nat m₂) (by rw [hjj]; exact .ke hk) (.fin trivial hq) (.inl (by simp only [phi]; omega)))
    · obtain ⟨a', w', es, hgo, ⟨rfl, rfl⟩, hg'⟩ := hstep w (rl_refl w)
      exact .inl (cIdle O ha h hgo (by rw [hjj]; exact .w4 hg') hmode (.inr ⟨rfl, dn_nat m'⟩))
  | ke hg =>
    rcases Goes.cases hg with hstop | ⟨m', rfl, hstep⟩
    · obtain ⟨_, a', hgo, m₂, hk⟩ := hstop w (rl_refl w)
      obtain ⟨hq, e1, e2⟩ := hmode.fin_inv trivial
      have hwg := h.wi.wg
      rw [e1, e2] at hwg
      exact .inl (cBook O ha h hgo (.refl D.Wg w) hwg (evS1 (.inr rfl)) rfl (tag' := .acq) (e' := 0) (k' := nat m₂) (by rw [hjj]; exact .acq hk) (.fin trivial hq) (.inl (by simp only [phi]; omega)))
    · obtain ⟨a', w', es, hgo, ⟨rfl, rfl⟩, hg'⟩ := hstep w (rl_refl w)
      exact .inl (cIdle O ha h hgo (by rw [hjj]; exact .ke hg') hmode (.inr ⟨rfl, dn_nat m'⟩))
  | acq hg =>
    rcases Goes.cases hg with hstop | ⟨m', rfl, hstep⟩
    · obtain ⟨_, a', hgo, hk⟩ := hstop w (rl_refl w)
      obtain ⟨hq, e1, e2⟩ := hmode.fin_inv trivial
      exact .inr ⟨_, _, runT_crowd_go (P := P) (sl := sl) (i := 0) ha (by simpa using hgo), joined O h hb hsd hjj hq hk⟩
    · obtain ⟨a', w', es, hgo, ⟨rfl, rfl⟩, hg'⟩ := hstep w (rl_refl w)
      exact .inl (cIdle O ha h hgo (by rw [hjj]; exact .acq hg') hmode (.inr ⟨rfl, dn_nat m'⟩))
end
end Go.Proofs.Ytgeflnjjppgooaa.Y

namespace Go.Proofs.Ytgeflnjjppgooaa.Y
open Go Go.Conc Go.RowKit Go.Proofs.Ytgeflnjjppgooaa Go.Proofs.Ytgeflnjjppgooaa.Q
open Go.ConcR (KK wgBlock WgAt stA smA rd wr mk Payload DC0 g_of_ofEvents Bk bk_of_mute ofEvent_loc_mark ofEvent_mk)
open Go.ConcN (get_map_set get_map_set_same WgLive PayAt Has RW DWs AtR0 WSit WD upd upd_same upd_ne CTag RelBy Vc Ssum cnt phi pend sumTo sumTo_upd sumTo_upd_out phi_mono phi_retag bk_cell isW3 OpenSt Vc_upd Vc_le others_uncounted le_sumTo Deaf_still Deaf_absent allQuit_of AllQuit exists_counted isOpen)
section
variable {P : Program} {D : Sc} {K : Goroutine → World → Prop} {G0 : Nat} {Sh : Nat → Prop} {wb : World} {s : St} {gs : Array Goroutine} {w w' : World} {sl : Option (Nat × Nat)} {t : Trace} {tag tag' : CTag} {e e' d0 d' : Nat} {k k' : Rk} {a a' : Goroutine} {es : Array Event}
theorem mute_facts (hm : ∀ e ∈ es, Event.mute e = true) (y : Nat) : ∀ e ∈ es, EvS D y e := fun e he => bk_evS (bk_of_mute (hm e he))
/-- A leaver slips: the measure falls. -/
theorem slipStep (ha : gs[0]? = some a) (h : Com P D G0 Sh wb s gs w t d0) (hcs : CSitM P D K tag s.j e k d0 a (s.V 0) w) (hmode : Go.ConcN.Mode s.j s.E tag s.st s.sm) {y : Nat} {g : Goroutine} (hy : 0 < y) (hyG : y < G0) (hg : gs[y]? = some g) (hrun : g.status = .running) :
    Falls P D K G0 Sh wb gs w sl t y (mu D s tag e k) := by
  obtain ⟨q, hF, hq⟩ := h.old y g hy hyG hg
  cases q with
  | zero => rw [hq.1] at hrun; cases hrun
  | succ q =>
    rcases hq with ⟨hf, _⟩ | ⟨_, g', es, hm, hst, hq⟩
    · rw [hf] at hrun; cases hrun
    · have hne : (y == 0) = false := by simp; omega
      have hrunT := runT_crowd_go (P := P) (sl := sl) (i := y) hg (by rw [hne]; exact hst w)
      have hc := h.slip (fn := g.frame.fn) (pos := g.frame.place) hy hyG hg hm hq
      obtain ⟨tag', k', hcs', htag, _⟩ := hcs.wokenBy (Ext.refl _) (rl_refl w) g g'
      refine ⟨_, _, _, hrunT, ?_, { s with F := Go.ConcN.upd s.F y (nat q) }, _, w, sl, tag', e, k', d0, woken P g g' w a, rfl, ?_, hcs', hc, hmode.retag htag, rfl⟩
      · simp only [mu]
        rw [phi_retag D.n _ htag]
        refine Lt.vec ⟨y, by omega, by rw [upd_same, hF]; exact dn_nat q, fun z hz => upd_ne s.F _ hz⟩
      · rw [get_map_set _ _ _ _ (by omega), ha]; rfl
/-- Somebody runs. -/
theorem someone (ha : gs[0]? = some a) (h : Com P D G0 Sh wb s gs w t d0) (hcs : CSitM P D K tag s.j e k d0 a (s.V 0) w) (hmode : Go.ConcN.Mode s.j s.E tag s.st s.sm) : ∃ (i : Nat) (g : Goroutine), gs[i]? = some g ∧ g.status = .running := by
  rcases hcs.status with ⟨hs, _⟩ | ⟨_, rfl⟩
  · exact ⟨0, a, ha, hs⟩
  · generalize s.st = stv at hmode
    generalize s.sm = smv at hmode
    cases hmode with
    | opn h1 _ _ => exact h1.elim
    | reg _ _ h3 =>
      obtain ⟨i, hi, h5⟩ := exists_counted h3
      obtain ⟨g, hg, hs⟩ := h.wks i hi
      exact ⟨G0 + i, g, hg, hs.running_of (by omega)⟩
    | last L _ h2 h3 _ =>
      obtain ⟨g, hg, hs⟩ := h.wks L h2
      exact ⟨G0 + L, g, hg, hs.running_of (by omega)⟩
    | fin h1 _ => exact h1.elim
theorem allAwake (ha : gs[0]? = some a) (h : Com P D G0 Sh wb s gs w t d0) (hcs : CSitM P D K tag s.j e k d0 a (s.V 0) w) : ∀ g ∈ gs, awake g := by
  intro g hg tm
  obtain ⟨i, hi⟩ := Array.mem_iff_getElem?.1 hg
  have hlt := (Array.getElem?_eq_some_iff.1 hi).1
  rw [h.size] at hlt
  rcases Nat.eq_zero_or_pos i with rfl | hpos
  · rw [ha] at hi; cases hi
    rcases hcs.status with ⟨hs, _⟩ | ⟨hs, _⟩ <;> rw [hs] <;> simp
  · rcases Nat.lt_or_ge i G0 with h1 | h1
    · obtain ⟨q, _, hq⟩ := h.old i g hpos h1 hi
      rcases hq.status with h | h <;> rw [h] <;> simp
    · obtain ⟨i', rfl⟩ : ∃ i', i = G0 + i' := ⟨i - G0, by omega⟩
      obtain ⟨g', hg', hs⟩ := h.wks i' (by omega)
      rw [hi] at hg'; cases hg'
      rcases hs.status with h | h <;> rw [h] <;> simp
theorem phase_step (O : PhOk D) (hb : View D.vb wb) (hsd : ∀ b, Sh b → ¬ Rdb D.vb b) (μ : Mu) (m : Machine) (t : Trace) (hI : Inv P D K G0 Sh wb μ m t) :
    ∃ m' ops, stepT P m = (.next m', ops) ∧ (Done P K D.vb wb Sh m' (t ++ ops) ∨ ∃ μ', Lt (G0 + D.n) μ' μ ∧ Inv P D K G0 Sh wb μ' m' (t ++ ops)) := by
  obtain ⟨s, gs, w, sl, tag, e, k, d0, a, rfl, ha, hcs, hcom, hmode, rfl⟩ := hI
  obtain ⟨i, g, d, sl', hg, hrun, hstep⟩ := crowd_pick (P := P) (w := w) (sl := sl) (allAwake ha hcom hcs) (someone ha hcom hcs hmode)
  rw [hstep]
  have hcom' := hcom.at O d
  have hcs' : CSitM P D K tag s.j e k d0 a (up (s.V 0) (w.at d)) (w.at d) := hcs.rely (up_ext _ _) (hcom'.wi.rl (w := w))
  have out : ∀ μ0, μ0 = mu D s tag e k → Falls P D K G0 Sh wb gs (w.at d) sl' t i μ0 → ∃ m' ops, runT P (crowd gs (w.at d) sl') i = (.next m', ops) ∧ (Done P K D.vb wb Sh m' (t ++ ops) ∨ ∃ μ', Lt (G0 + D.n) μ' (mu D s tag e k) ∧ Inv P D K G0 Sh wb μ' m' (t ++ ops)) := by
    rintro μ0 rfl ⟨m₁, ops, μ', h1, h2, h3⟩
    exact ⟨m₁, ops, h1, .inr ⟨μ', h2, h3⟩⟩
  rcases Nat.eq_zero_or_pos i with rfl | hpos
  · rw [ha] at hg; cases hg
    rcases stepCaller (sl := sl') O hb hsd ha hcom' hcs' hmode hrun with h | ⟨m₁, ops, h1, h2⟩
    · exact out _ rfl h
    · exact ⟨m₁, ops, h1, .inl h2⟩
  · have hlt := (Array.getElem?_eq_some_iff.1 hg).1
    rw [hcom.size] at hlt
    rcases Nat.lt_or_ge i G0 with h1 | h1
    · exact out _ rfl (slipStep ha hcom' hcs' hmode hpos h1 hg hrun)
    · obtain ⟨i', rfl⟩ : ∃ i', i = G0 + i' := ⟨i - G0, by omega⟩
      exact out _ rfl (stepWorker O ha hcom' hcs' hmode (show i' < s.j by omega) hg hrun)
/-- ████ A PHASE, ON EVERY TAPE. ████ -/
theorem phase_runs {v : World} (F : Frame P Sh gs w t a v) (h : Phase P true a v K) : ∃ n m' t', runNT P n (crowd gs w sl) t = (.next m', t') ∧ Done P K v w Sh m' t' := by
  classical
  obtain ⟨_, D, rfl, O, hgo⟩ := h
  obtain ⟨k, hk⟩ := GoR.of hgo
  have hg0 : 0 < gs.size := (Array.getElem?_eq_some_iff.1 F.a).1
  have hBe : ∀ b, Rdb (begin_ D) b ↔ Rdb D.vb b ∧ b ≠ D.Wg ∧ D.arr b = false := fun b => by
    unfold begin_
    rw [rdb_kill, rdb_frz]
    simp
  have hBl : ∀ b, ¬ Liv (begin_ D) b := fun b hl => by
    unfold begin_ at hl
    rw [liv_kill] at hl
    exact not_liv_frz hl.1
  have hwgv := O.wg
  have hWl : Liv D.vb D.Wg := ⟨_, _, _, hwgv, by simp, by simp⟩
  have liveEq : ∀ (b : Nat) (c : Array Value) (ty : TypeId), D.vb.heap[b]? = some (Obj.cells c ty (0, 0)) → c ≠ #[] → w.heap[b]? = some (Obj.cells c ty (0, 0)) := fun b c ty h1 h2 => by
    have hb := F.view.blk b
    rw [h1] at hb
    revert hb
    generalize hz : ((0 : Nat), (0 : Nat)) = z
    generalize w.heap[b]? = y
    intro hb
    cases hb with
    | same _ => rfl
    | dead => exact absurd rfl h2
    | fro =>
      have : c.size = 0 := (congrArg Prod.snd hz).symm
      exact absurd (Array.eq_empty_of_size_eq_zero this) h2
  have hWlt : D.Wg < D.vb.heap.size := liv_lt hWl
  let s0 : St := { j := 0, V := fun _ => begin_ D, E := fun _ => ⟨0, 0, 0⟩, wk := fun _ => false, σ := fun _ => [], F := fun y => if h : ∃ q g, gs[y]? = some g ∧ QuitsD P q (Deaf t y) g then nat h.choose else .leaf, rel := fun _ => none, st := 0, sm := 0 }
  have hcom : Com P D gs.size Sh w s0 gs w t 0 := by
    refine ⟨hg0, rfl, fun y g hy hyG hg => ?_, fun i hi => absurd hi (Nat.not_lt_zero i), ⟨fun x _ => view_kill (view_frz F.view), fun x y _ _ hne b hl => absurd hl (hBl b), fun x _ b hb hr => ?_, fun x _ b _ hl => hBl b hl⟩,
      ⟨liveEq _ _ _ hwgv (by simp), fun b d ty z hb hd => ?_, fun i hi => absurd hi (Nat.not_lt_zero i), fun _ _ _ _ => rfl, rfl, rfl, rfl, by rw [F.view.size]; exact Nat.le_refl _, hWlt, ?_⟩, ?_, F.norel, F.deaf0, fun i hi => absurd hi (Nat.not_lt_zero i), fun i hi => absurd hi (Nat.not_lt_zero i), fun _ _ => rfl, fun i hi => absurd hi (Nat.not_lt_zero i), fun b hb => by rw [F.view.size]; exact F.shb b hb, fun b hb => ?_⟩
    · obtain ⟨q, hq⟩ := F.old y g hy hg
      have hex : ∃ q g, gs[y]? = some g ∧ QuitsD P q (Deaf t y) g := ⟨q, g, hg, hq⟩
      obtain ⟨g', hg', hq'⟩ := hex.choose_spec
      rw [hg] at hg'; cases hg'
      exact ⟨hex.choose, by simp only [s0]; rw [dif_pos hex], hq'⟩
    · have hr := (hBe b).1 hr
      rcases hb with rfl | hb | hb
      · exact hr.2.1 rfl
      · rw [hb] at hr; exact absurd hr.2.2 (by simp)
      · exact F.dead b hb hr.1
    · obtain ⟨_, c, ty', h1⟩ := O.arr b hb
      obtain ⟨c2, ty2, z2, h2, h3, _⟩ := O.arr0 b hb
      rw [hd] at h1 h2; cases h1; cases h2
      exact ⟨d, liveEq _ _ _ hd h3, rfl⟩
    · exact liveEq _ _ _ O.c.2.2 (by simp)
    · refine ((F.ti.addSh (Sh' := ShW D Sh) (fun b hb => .inr hb) (fun ad hs => ?_) fun y hy => hy).weak (fun y b hr => ?_) (fun y ad hr => ?_) fun y hy => ?_)
      · rcases hs with hs | hs
        · exact .inr ⟨rfl, by rw [hs]; exact hWl⟩
        · exact .inl hs
      · rcases hr with ⟨rfl, hr⟩ | ⟨i, hi, _⟩
        · exact ⟨rfl, ((hBe b).1 hr).1⟩
        · exact absurd hi (Nat.not_lt_zero i)
      · rcases hr with ⟨rfl, hr | ⟨i, _, ho⟩⟩ | ⟨i, hi, _⟩
        · exact absurd hr (hBl _)
        · exact ⟨rfl, O.arr0 _ (O.own i ad ho).1⟩
        · exact absurd hi (Nat.not_lt_zero i)
      · rcases hy with rfl | ⟨i, hi, _⟩
        · rfl
        · exact absurd hi (Nat.not_lt_zero i)
    · cases ha : D.arr b with
      | false => rfl
      | true => exact absurd (O.arr0 b ha).rdb (F.dead b hb)
  have hcs : CSitM P D K (.sp D.n 6) s0.j 0 k 0 a (s0.V 0) w := by
    have := CSitM.s6 (P := P) (K := K) (w := w) (Nat.le_refl D.n) hk
    rw [Nat.sub_self] at this
    exact this
  have hmode : Go.ConcN.Mode s0.j s0.E (.sp D.n 6) s0.st s0.sm := by
    have := Go.ConcN.Mode.opn (j := 0) (D := fun _ => (⟨0, 0, 0⟩ : WD)) (tag := .sp D.n 6) trivial (fun i hi => absurd hi (Nat.not_lt_zero i)) (by simp)
    simpa [Vc, sumTo, pend] using this
  exact reach_of_inv (Lt.wf (gs.size + D.n)) (Inv P D K gs.size Sh w) (Done P K D.vb w Sh) (phase_step O F.view F.dead) _ _ t ⟨s0, gs, w, sl, .sp D.n 6, 0, k, 0, a, rfl, F.a, hcs, hcom, hmode, rfl⟩
end
end Go.Proofs.Ytgeflnjjppgooaa.Y

namespace Go.Proofs.Ytgeflnjjppgooaa.Y
open Go Go.Conc Go.RowKit Go.Proofs.Ytgeflnjjppgooaa Go.Proofs.Ytgeflnjjppgooaa.Q
open Go.ConcN (get_map_set get_map_set_same upd upd_same upd_ne)
section
variable {P : Program} {K : Goroutine → World → Prop} {Sh : Nat → Prop} {gs : Array Goroutine} {v v' v'' w w' w'' : World} {sl : Option (Nat × Nat)} {t : Trace} {a a' : Goroutine} {es : Array Event}
theorem Since.refl : Since v w Sh v w Sh := ⟨Nat.le_refl _, fun _ _ _ => rfl, fun _ _ h => .inl h, fun _ _ => ⟨id, .inl⟩, fun _ => id⟩
theorem Since.trans {Sh' Sh'' : Nat → Prop} (h : Since v w Sh v' w' Sh') (k : Since v' w' Sh' v'' w'' Sh'') : Since v w Sh v'' w'' Sh'' := by
  have hs := h.size
  refine ⟨Nat.le_trans hs k.size, fun b hb hn => ?_, fun b hb hl => ?_, fun b hb => ⟨fun hl => (h.back b hb).1 ((k.back b (by omega)).1 hl), fun hs2 => ?_⟩, fun b hb => k.sh b (h.sh b hb)⟩
  · exact (k.keep b (by omega) fun hl => hn ((h.back b hb).1 hl)).trans (h.keep b hb hn)
  · rcases h.liv b hb hl with h1 | h1
    · exact k.liv b (by omega) h1
    · exact .inr (k.sh b h1)
  · rcases (k.back b (by omega)).2 hs2 with h1 | h1
    · exact (h.back b hb).2 h1
    · exact .inr ((h.back b hb).1 h1)
theorem Since.up (hb : w'.heap = w.heap) : Since v w Sh (up v w') w' Sh := ⟨(up_ext v w').size, fun b _ _ => by rw [hb], fun b _ hl => .inl (liv_up.2 hl), fun _ _ => ⟨fun hl => liv_up.1 hl, .inl⟩, fun _ => id⟩
theorem Since.chg (hc : Chg v v' w w') : Since v w Sh v' w' Sh := ⟨hc.grow, fun b hb hn => (hc.keep b hb hn).2, fun b _ hl => .inl (hc.stay b hl), fun _ hb => ⟨fun hl => hc.liv hb hl, .inl⟩, fun _ => id⟩
/-- What stood at the beginning stands, if goroutine 0 says so of what it sees. -/
theorem Since.below {v0 w0 : World} (h : Since v0 w0 (fun _ => False) v w Sh) (h0 : View v0 w0) (hv : View v w) (hd : ∀ b, Sh b → ¬ Rdb v b) (hB : Below w0.heap.size v0 v) : Below w0.heap.size w0 w := by
  have r0 := h0.rest
  have r := hv.rest
  have hs := h.size
  refine ⟨?_, ?_, ?_, by rw [← hv.size, ← h0.size]; exact hs, fun b hb => ?_⟩
  · rw [r, r0]; exact hB.os
  · rw [r, r0]; exact hB.tape
  · rw [r, r0]; exact hB.output
  · have hb0 : b < v0.heap.size := by rw [h0.size]; exact hb
    have e := hB.block b hb
    have liveEq : ∀ {u x : World}, View u x → Liv u b → x.heap[b]? = u.heap[b]? := fun {u x} hux hl => by
      obtain ⟨c, ty, z, h1, h2, h3⟩ := hl
      have hbk := hux.blk b
      rw [h1] at hbk ⊢
      generalize x.heap[b]? = y at hbk
      cases hbk with
      | same _ => rfl
      | dead => exact absurd rfl h2
      | fro => exact absurd rfl h3
    by_cases hl : Liv v0 b
    · rcases h.liv b hb0 hl with h1 | h1
      · rw [liveEq hv h1, e, liveEq h0 hl]
      · exact absurd ((rdb_of_eq e).2 hl.rdb) (hd b h1)
    · exact h.keep b hb0 hl
theorem Frame.pos (F : Frame P Sh gs w t a v) : 0 < gs.size := (Array.getElem?_eq_some_iff.1 F.a).1
theorem Frame.at (F : Frame P Sh gs w t a v) (d : Nat) : Frame P Sh gs (w.at d) t a (up v (w.at d)) :=
  ⟨F.a, view_same F.view rfl rfl rfl rfl, F.old, F.ti.weak (fun _ _ hr => ⟨hr.1, rdb_up.1 hr.2⟩) (fun _ _ hr => ⟨hr.1, liv_up.1 hr.2⟩) fun _ => id, fun b hb hr => F.dead b hb (rdb_up.1 hr), F.shb, F.deaf0, F.norel⟩
theorem Frame.slip (F : Frame P Sh gs w t a v) (ha : a.status = .running) {fn : FuncId} {pos : String} {y q : Nat} {g g' : Goroutine} (hy : 0 < y) (hg : gs[y]? = some g) (hm : ∀ e ∈ es, Event.mute e = true) (hq : QuitsD P q (deafBehind (Deaf t y) es) g') :
    Frame P Sh ((gs.map (woken P g g' w)).setIfInBounds y g') w (t ++ MemOp.ofEvents y fn pos es) a v := by
  have hsz : y < gs.size := (Array.getElem?_eq_some_iff.1 hg).1
  refine ⟨by rw [get_map_set _ _ _ _ (by omega), F.a]; simp [woken_run ha], F.view, fun k x hk hx => ?_, ?_, F.dead, F.shb, by rw [Deaf_other t (by omega) _ ops_g]; exact F.deaf0, fun ad => (F.norel ad).app (norelA fun e he => (mute_facts (D := ⟨0, 0, 0, .nilIface, 0, 0, v, fun _ => false, fun _ _ => False, fun _ _ _ => False⟩) hm y e he).2.1)⟩
  · by_cases e : k = y
    · subst e
      rw [get_map_set_same _ _ _ hsz] at hx
      cases hx
      exact ⟨q, by rw [Deaf_own]; exact hq⟩
    · rw [get_map_set _ _ _ _ (Ne.symm e)] at hx
      obtain ⟨z, hz, rfl⟩ := Option.map_eq_some_iff.1 hx
      obtain ⟨q', h2⟩ := F.old k z hk hz
      refine ⟨q', ?_⟩
      rw [woken_quitsD h2, Deaf_other t (Ne.symm e) _ ops_g]
      exact h2
  · have := F.ti.mute (u := MemOp.ofEvents y fn pos es) (Nat.le_refl _) (fun op hop => by rw [ops_g op hop]; exact hsz) (fun op hop => by obtain ⟨e, he, rfl⟩ := Go.Conc.mem_ofEvents hop; exact touch_mute (hm e he)) (fun op hop => by obtain ⟨e, he, rfl⟩ := Go.Conc.mem_ofEvents hop; exact low_mute (hm e he) _) ops_g
    simpa using this
/-- Goroutine 0's events are well. -/
theorem Frame.ops (F : Frame P Sh gs w t a v) (hv' : View v' w') (hgr : v.heap.size ≤ v'.heap.size) (hr : ∀ b, b < v.heap.size → Rdb v' b → Rdb v b) (hl : ∀ b, b < v.heap.size → Liv v' b → Liv v b) {fn : FuncId} {pos : String} (he : ∀ e ∈ es, EvOk v v'.heap.size e) :
    TI Sh (RdF v') (WrF v') (fun y => y = 0) (fun _ => none) (gs.size - 1) w'.heap.size gs.size (t ++ MemOp.ofEvents 0 fn pos es) := by
  have hsz := F.view.size
  have hsz' := hv'.size
  refine F.ti.step ⟨fun x ad hw y hne => ⟨fun h => hne (h.1.trans hw.1.symm), fun h => hne (h.1.trans hw.1.symm)⟩, fun y b h => ?_, fun y ad h => ?_, F.shb, fun b hb y h => F.dead b hb h.2, fun ad hb y h => F.dead _ hb h.2.rdb⟩ (x := 0) rfl F.pos (by omega) ops_g (fun op hop b hb => ?_) (fun op hop => ?_)
    (fun i op b _ _ _ => .inl rfl) (fun y b h => ?_) (fun y ad h => ?_)
  · rw [← hsz]; exact rdb_lt h.2
  · rw [← hsz]; exact liv_lt h.2
  · obtain ⟨e, hee, rfl⟩ := Go.Conc.mem_ofEvents hop
    rcases evok_op (he e hee) hb with h1 | ⟨ad, h1, h2⟩
    · exact .inl h1
    · refine .inr ⟨ad, h1, ?_⟩
      rcases h2 with h2 | h2
      · exact .inr (.inl (by omega))
      · split at h2
        · exact .inr (.inr (.inl ⟨rfl, h2⟩))
        · rename_i hnw
          exact .inr (.inr (.inr ⟨⟨rfl, h2⟩, by simpa using hnw⟩))
  · obtain ⟨e, hee, rfl⟩ := Go.Conc.mem_ofEvents hop
    rw [← hsz']
    exact evok_low (he e hee)
  · obtain ⟨rfl, h⟩ := h
    rcases Nat.lt_or_ge b w.heap.size with hlt | hge
    · exact .inl ⟨rfl, hr b (by omega) h⟩
    · exact .inr ⟨rfl, hge⟩
  · obtain ⟨rfl, h⟩ := h
    rcases Nat.lt_or_ge ad.block w.heap.size with hlt | hge
    · exact .inl ⟨rfl, hl _ (by omega) h⟩
    · exact .inr ⟨rfl, hge⟩
theorem Frame.step (F : Frame P Sh gs w t a v) {fn : FuncId} {pos : String} (hc : Chg v v' w w') (he : ∀ e ∈ es, EvOk v v'.heap.size e) : Frame P Sh ((gs.map (woken P a a' w')).setIfInBounds 0 a') w' (t ++ MemOp.ofEvents 0 fn pos es) a' v' := by
  have hsz := F.view.size
  have hsz' := hc.view.size
  have hgr := hc.grow
  refine ⟨get_map_set_same _ _ _ F.pos, hc.view, fun k x hk hx => ?_, ?_, fun b hb hr => F.dead b hb (hc.rdb (by have := F.shb b hb; omega) hr), fun b hb => by have := F.shb b hb; omega, ?_, fun ad => (F.norel ad).app (norelA fun e h => (evok_mark (he e h)).2.2)⟩
  · rw [get_map_set _ _ _ _ (by omega)] at hx
    obtain ⟨z, hz, rfl⟩ := Option.map_eq_some_iff.1 hx
    obtain ⟨q', h2⟩ := F.old k z hk hz
    refine ⟨q', ?_⟩
    rw [woken_quitsD h2, Deaf_other t (by omega) _ ops_g]
    exact h2
  · have := F.ops (fn := fn) (pos := pos) hc.view hgr (fun b hb h => hc.rdb hb h) (fun b hb h => hc.liv hb h) he
    simpa using this
  · rw [Deaf_own, F.deaf0]
    exact deafBehind_still (fun e h => ⟨(evok_mark (he e h)).1, (evok_mark (he e h)).2.1⟩) _
theorem Frame.awake (F : Frame P Sh gs w t a v) (ha : a.status = .running) : ∀ g ∈ gs, awake g := by
  intro g hg
  obtain ⟨i, hi, rfl⟩ := Array.mem_iff_getElem.1 hg
  rcases Nat.eq_zero_or_pos i with rfl | hpos
  · have : gs[0] = a := by simpa [Array.getElem?_eq_getElem hi] using F.a
    rw [this]; exact awake_of (.inl ha)
  · obtain ⟨q, hq⟩ := F.old i _ hpos (Array.getElem?_eq_getElem hi)
    exact awake_of (hq.status.elim .inl fun x => .inr (.inr x))
/-- Leavers' ranks. -/
def Lv (P : Program) (gs : Array Goroutine) (t : Trace) (q : Nat → Rk) : Prop := ∀ y g, 0 < y → gs[y]? = some g → ∃ n, q y = nat n ∧ QuitsD P n (Deaf t y) g
theorem Frame.lv (F : Frame P Sh gs w t a v) : ∃ q, Lv P gs t q := by
  classical
  refine ⟨fun y => if h : ∃ n g, gs[y]? = some g ∧ QuitsD P n (Deaf t y) g then nat h.choose else .leaf, fun y g hy hg => ?_⟩
  obtain ⟨n, hn⟩ := F.old y g hy hg
  have hex : ∃ n g, gs[y]? = some g ∧ QuitsD P n (Deaf t y) g := ⟨n, g, hg, hn⟩
  obtain ⟨g', hg', hq'⟩ := hex.choose_spec
  rw [hg] at hg'; cases hg'
  exact ⟨hex.choose, dif_pos hex, hq'⟩
theorem Lv.slip {q : Nat → Rk} (h : Lv P gs t q) {fn : FuncId} {pos : String} {y n : Nat} {g g' : Goroutine} (hg : gs[y]? = some g) (hq : QuitsD P n (deafBehind (Deaf t y) es) g') :
    Lv P ((gs.map (woken P g g' w)).setIfInBounds y g') (t ++ MemOp.ofEvents y fn pos es) (Go.ConcN.upd q y (nat n)) := by
  have hsz : y < gs.size := (Array.getElem?_eq_some_iff.1 hg).1
  intro k x hk hx
  by_cases e : k = y
  · subst e
    rw [get_map_set_same _ _ _ hsz] at hx
    cases hx
    exact ⟨n, upd_same _ _ _, by rw [Deaf_own]; exact hq⟩
  · rw [get_map_set _ _ _ _ (Ne.symm e)] at hx
    obtain ⟨z, hz, rfl⟩ := Option.map_eq_some_iff.1 hx
    obtain ⟨q', h1, h2⟩ := h k z hk hz
    refine ⟨q', (upd_ne q _ e).trans h1, ?_⟩
    rw [woken_quitsD h2, Deaf_other t (Ne.symm e) _ ops_g]
    exact h2
/-- Who moves: goroutine 0, or a leaver slips. -/
theorem Frame.pick (F : Frame P Sh gs w t a v) (ha : a.status = .running) {q : Nat → Rk} (hL : Lv P gs t q) :
    (∃ d sl', stepT P (crowd gs w sl) = runT P (crowd gs (w.at d) sl') 0) ∨
    ∃ d sl' gs' ops q', stepT P (crowd gs w sl) = (.next (crowd gs' (w.at d) sl'), ops) ∧ Frame P Sh gs' (w.at d) (t ++ ops) a (up v (w.at d)) ∧ Lv P gs' (t ++ ops) q' ∧ Vec gs.size q' q ∧ gs'.size = gs.size := by
  obtain ⟨i, g, d, sl', hi, hg, hst⟩ := crowd_pick (P := P) (w := w) (sl := sl) (F.awake ha) ⟨0, a, F.a, ha⟩
  rcases Nat.eq_zero_or_pos i with rfl | hpos
  · exact .inl ⟨d, sl', hst⟩
  · obtain ⟨n, hqi, hq⟩ := hL i g hpos hi
    have hi0 : (i == 0) = false := by simp; omega
    have hlt : i < gs.size := (Array.getElem?_eq_some_iff.1 hi).1
    cases n with
    | zero => rw [hq.1] at hg; cases hg
    | succ n =>
      rcases hq with ⟨hf, _⟩ | ⟨_, g', es, hm, hstp, hq'⟩
      · rw [hf] at hg; cases hg
      · have hrunT := runT_crowd_go (P := P) (sl := sl') (i := i) hi (by rw [hi0]; exact hstp (w.at d))
        exact .inr ⟨d, sl', _, _, Go.ConcN.upd q i (nat n), hst.trans hrunT, (F.at d).slip ha hpos hi hm hq', hL.slip hi hq', ⟨i, hlt, by rw [upd_same, hqi]; exact dn_nat n, fun y hy => upd_ne q _ hy⟩, by simp⟩
/-- ████ GOROUTINE 0's WAY, ON EVERY TAPE. ████ -/
theorem walk {S : Goroutine → World → Prop} (h : @Go3 phC P true S a v) : ∀ {gs : Array Goroutine} {w : World} {sl : Option (Nat × Nat)} {t : Trace} {Sh : Nat → Prop}, Frame P Sh gs w t a v → ∃ n m' t', runNT P n (crowd gs w sl) t = (.next m', t') ∧ Done P (fun g v => S g v ∧ ∀ v1, Ext v v1 → S g v1) v w Sh m' t' := by
  induction h with
  | @stop a v h => exact fun {gs w sl t Sh} F => ⟨0, crowd gs w sl, t, rfl, gs, w, sl, a, v, Sh, rfl, F, ⟨h v (Ext.refl v), h⟩, .refl⟩
  | @step a v hs g' v' h hn ih =>
    intro gs w sl t Sh F
    obtain ⟨q, hq⟩ := F.lv
    have key := reach_of_inv (P := P) (Vec.wf gs.size) (fun q m t' => ∃ gs' w' sl' v1, m = crowd gs' w' sl' ∧ Frame P Sh gs' w' t' a v1 ∧ Ext v v1 ∧ Lv P gs' t' q ∧ gs'.size = gs.size ∧ Since v w Sh v1 w' Sh)
      (fun m t' => ∃ gs' w' sl' v1, m = crowd gs' w' sl' ∧ Frame P Sh gs' w' t' (g' v1) (v' v1) ∧ Ext v v1 ∧ Since v w Sh (v' v1) w' Sh) (by
        rintro q m t' ⟨gs', w', sl', v1, rfl, F', hx, hL, hsz, hsi⟩
        rcases F'.pick (sl := sl') hs hL with ⟨d, sl2, hst⟩ | ⟨d, sl2, gs2, ops, q', hst, F2, hL2, hv2, hsz2⟩
        · have F3 := F'.at d
          have hx2 : Ext v (up v1 (w'.at d)) := hx.trans (up_ext _ _)
          obtain ⟨w2, es, hgo, hc, he⟩ := h _ hx2 _ F3.view
          have hrunT := runT_crowd_go (P := P) (sl := sl2) (i := 0) F'.a (show stepG P (0 == 0) a (w'.at d) = _ from hgo)
          exact ⟨_, _, hst.trans hrunT, .inl ⟨_, w2, sl2, up v1 (w'.at d), rfl, F3.step hc he, hx2, (hsi.trans (Since.up (w' := w'.at d) rfl)).trans (.chg hc)⟩⟩
        · exact ⟨_, _, hst, .inr ⟨q', by rw [← hsz]; exact hv2, gs2, _, sl2, up v1 (w'.at d), rfl, F2, hx.trans (up_ext _ _), hL2, hsz2.trans hsz, hsi.trans (Since.up (w' := w'.at d) rfl)⟩⟩)
      q (crowd gs w sl) t ⟨gs, w, sl, v, rfl, F, Ext.refl v, hq, rfl, .refl⟩
    obtain ⟨n, m', t', hr, gs', w', sl', v1, rfl, F', hx, hsi⟩ := key
    obtain ⟨n2, m2, t2, hr2, gs2, w2, sl2, a2, v2, Sh2, rfl, F2, hS, hsi2⟩ := ih v1 hx (sl := sl') F'
    exact ⟨n + n2, _, t2, by rw [runNT_add, hr]; exact hr2, gs2, w2, sl2, a2, v2, Sh2, rfl, F2, hS, hsi.trans hsi2⟩
  | @phase a v K h hn ih =>
    intro gs w sl t Sh F
    obtain ⟨n, m', t', hr, gs', w', sl', a', v', Sh', rfl, F', hK, hsi⟩ := phase_runs (sl := sl) F (h v (Ext.refl v))
    obtain ⟨n2, m2, t2, hr2, gs2, w2, sl2, a2, v2, Sh2, rfl, F2, hS, hsi2⟩ := ih v (Ext.refl v) a' v' hK (sl := sl') F'
    exact ⟨n + n2, _, t2, by rw [runNT_add, hr]; exact hr2, gs2, w2, sl2, a2, v2, Sh2, rfl, F2, hS, hsi.trans hsi2⟩
/-- At the return. -/
def EndS (P : Program) (Post : Value → World → Prop) (g : Goroutine) (v : World) : Prop :=
  g.status = .running ∧ ∀ w, View v w → ∃ x es, stepG P true g w = .ended (.done x) w es ∧ (∀ e ∈ es, EvOk v v.heap.size e) ∧ Post x v
theorem Frame.first (hv : View v w) : Frame P (fun _ => False) #[a] w #[] a v :=
  ⟨rfl, hv, fun y g hy hg => absurd (Array.getElem?_eq_some_iff.1 hg).1 (by simp; omega), TI.nil _, fun _ h => h.elim, fun _ h => h.elim, rfl, fun ad i hi => by simp [Trace.act?] at hi⟩
/-- What holds at the end. -/
def FinS (Post : Value → World → Prop) (v0 w0 : World) (x : Value) (w : World) : Prop := ∃ v Sh, Post x v ∧ View v w ∧ (∀ b, Sh b → ¬ Rdb v b) ∧ Since v0 w0 (fun _ => False) v w Sh
/-- ████ FROM THE ENTRY TO THE RETURN, ON EVERY TAPE. ████ -/
theorem law_runs {Post : Value → World → Prop} (hv : View v w) (h : @Go3 phC P true (EndS P Post) a v) :
    ∃ N last o w' t', runNT P (N + 1) (solo a w) #[] = (.ended o w', t') ∧ runN P N (solo a w) = .next last ∧ step P last = .ended o w' ∧ Go.Conc.Good P (FinS Post v w) last o w' t' := by
  obtain ⟨n, m', t', hr, gs, w1, sl, a1, v1, Sh, rfl, F, ⟨hS1, hS⟩, hsi⟩ := walk (sl := none) h (Frame.first hv)
  obtain ⟨q, hq⟩ := F.lv
  have key := run_of_inv (P := P) (Vec.wf gs.size) (fun q m t' => ∃ gs' w' sl' v2, m = crowd gs' w' sl' ∧ Frame P Sh gs' w' t' a1 v2 ∧ Ext v1 v2 ∧ Lv P gs' t' q ∧ gs'.size = gs.size ∧ Since v w (fun _ => False) v2 w' Sh)
    (Go.Conc.Good P (FinS Post v w)) (by
      rintro q m t' ⟨gs', w', sl', v2, rfl, F', hx, hL, hsz, hsi'⟩
      rcases F'.pick (sl := sl') hS1.1 hL with ⟨d, sl2, hst⟩ | ⟨d, sl2, gs2, ops, q', hst, F2, hL2, hv2, hsz2⟩
      · have F3 := F'.at d
        obtain ⟨_, hend⟩ := hS _ (hx.trans (up_ext v2 (w'.at d)))
        obtain ⟨x, es, hgo, he, hp⟩ := hend _ F3.view
        have hrunT := runT_many_ended (P := P) (sl := sl2) (i := 0) F'.a (show stepG P (0 == 0) a1 (w'.at d) = _ from hgo)
        have hT := F3.ops (fn := a1.frame.fn) (pos := a1.frame.place) F3.view (Nat.le_refl _) (fun _ _ h => h) (fun _ _ h => h) he
        refine .inl ⟨_, _, _, hst.trans hrunT, x, rfl, ⟨_, Sh, hp, F3.view, F3.dead, hsi'.trans (Since.up (w' := w'.at d) rfl)⟩, hT.clean, hT.over (by omega), ⟨fun z hz => ?_, rfl⟩, fun j z hz hj => ?_⟩
        · obtain ⟨j, hj⟩ := List.mem_iff_getElem?.1 hz
          rw [List.getElem?_drop] at hj
          obtain ⟨n, hn⟩ := F'.old (1 + j) z (by omega) (by simpa [crowd] using hj)
          exact ⟨_, hn.leaves⟩
        · obtain ⟨n, hn⟩ := F'.old j z (by omega) hz
          refine ⟨n, ?_⟩
          have e : (t' ++ MemOp.ofEvents 0 a1.frame.fn a1.frame.place es).deaf j (t' ++ MemOp.ofEvents 0 a1.frame.fn a1.frame.place es).size = Deaf t' j :=
            Deaf_other t' (g := j) (g' := 0) (by omega) _ ops_g
          rw [e]
          exact hn.hears _
      · exact .inr ⟨_, _, q', hst, by rw [← hsz]; exact hv2, gs2, _, sl2, up v2 (w'.at d), rfl, F2, hx.trans (up_ext _ _), hL2, hsz2.trans hsz, hsi'.trans (Since.up (w' := w'.at d) rfl)⟩)
    q (crowd gs w1 sl) t' ⟨gs, w1, sl, v1, rfl, F, Ext.refl v1, hq, rfl, hsi⟩
  obtain ⟨N, last, o, w2, t2, e1, e2, e3, e4⟩ := key
  rw [← solo_eq_crowd] at hr
  refine ⟨n + N, last, o, w2, t2, ?_, ?_, e3, e4⟩
  · rw [Nat.add_assoc, runNT_add, hr]; exact e1
  · rw [runN_add, ← runNT_fst P _ _ #[], hr]; exact e2
end
end Go.Proofs.Ytgeflnjjppgooaa.Y

namespace Go.Proofs.Ytgeflnjjppgooaa.Y
open Go Go.Conc Go.RowKit Go.Proofs.Ytgeflnjjppgooaa Go.Proofs.Ytgeflnjjppgooaa.Q
/-- The world as goroutine 0 sees it ahead of its first step. -/
def selfV (w : World) : World := { w with heap := w.heap.mapIdx selfO }
theorem selfV_get (w : World) (b : Nat) : (selfV w).heap[b]? = (w.heap[b]?).map (selfO b) := by simp [selfV]
theorem selfV_view (w : World) : View (selfV w) w := by
  refine ⟨rfl, by simp [selfV], fun b => ?_⟩
  rw [selfV_get]
  cases w.heap[b]? with
  | none => exact .same (fun a t h => by cases h)
  | some o => exact br_self b o
theorem selfV_cell {w : World} {a : Addr} {v : Value} (h : w.cell? a = some v) (hs : a.spot = none) : (selfV w).cell? a = some v := by
  simp only [World.cell?, selfV_get] at h ⊢
  cases hb : w.heap[a.block]? with
  | none => rw [hb] at h; simp at h
  | some o => rw [hb] at h; cases o <;> simp_all [selfO]
theorem selfV_cl {w : World} {a : Option Addr} {us : List Value} (h : Cl w a us) : Cl (selfV w) a us := by
  rcases h with h | ⟨p, h1, h2, h3⟩
  · exact .inl h
  · refine .inr ⟨p, h1, h2, fun i u hu => ?_⟩
    obtain ⟨v, hv, hc⟩ := h3 i u hu
    exact ⟨v, selfV_cell hv rfl, hc⟩
theorem run_results1 {P : Program} {fn : Func} {t : Tmp} (h : fn.results = #[.tmp t]) (tmps : Array Value) (w : World) : (results fn tmps).run P w = .ok (tmps.getD t undef) w := by simp [results, h]
theorem ev_results1 {P : Program} {fn : Func} {t : Tmp} (h : fn.results = #[.tmp t]) (tmps : Array Value) (w : World) : (results fn tmps).events P w #[] = #[] := by simp [results, h]
theorem leave_bottom {P : Program} {fn : Func} {b : Go.Frame} {a : Act} {todo : List Item} {w : World} {v : Value} (hn : b.kind = .normal) (hd : a.defers = []) (hf : P.funcs[b.fn]? = some fn) (hi : P.inits.idxOf? b.fn = none) (hr : (results fn a.tmps).run P w = .ok v w) (he : (results fn a.tmps).events P w #[] = #[]) :
    stepG P true (G { b.at a todo with mode := .returning } []) w = .ended (.done v) w #[] := by
  simp [G, stepG, unwind, doReturn, Go.Frame.at, hn, hd, hf, hi, hr, he, seen, GStep.after]
/-- ████ A CONTRACT OVER VIEWS, AS A RUN. ████ -/
theorem runs_of {P : Program} {f : FuncId} {fn : Func} {t : Tmp} {args : Array Value} {W : World} {Post : Value → Prop} (hf : P.funcs[f]? = some fn) (hi : P.inits.idxOf? f = none) (hres : fn.results = #[.tmp t])
    (h : @CallsQ phC P f args (selfV W) (fun e w' => ∃ v, e = .returned v ∧ Post v ∧ Below (selfV W).heap.size (selfV W) w')) :
    ∃ M last o w' t', runNT P (M + 1) (solo (G (Frame.enter P f args .normal) []) W) #[] = (.ended o w', t') ∧ runN P M (solo (G (Frame.enter P f args .normal) []) W) = .next last ∧ step P last = .ended o w' ∧
      Go.Conc.Good P (fun v w' => Post v ∧ Below W.heap.size W w') last o w' t' := by
  obtain ⟨fn', c, hf', hb, hw⟩ := h
  obtain rfl : fn = fn' := Option.some.inj (hf.symm.trans hf')
  have hend : ∀ (a' : Act) (w' : World) (todo : List Item), a'.defers = [] → (∀ w1, Ext w' w1 → ∃ v, (results fn a'.tmps).run P w1 = .ok v w1 ∧ ∃ v', Ending.returned v = .returned v' ∧ Post v' ∧ Below (selfV W).heap.size (selfV W) w') →
      @Go3 phC P true (EndS P (fun v w => Post v ∧ Below (selfV W).heap.size (selfV W) w)) (G { (base f).at a' todo with mode := .returning } []) w' := by
    intro a' w' todo hd hr
    refine .stop fun v1 hx => ⟨rfl, fun w hvw => ?_⟩
    obtain ⟨v, h1, v', h2, h3, h4⟩ := hr v1 hx
    cases h2
    rw [run_results1 hres] at h1
    simp only [Result.ok.injEq, and_true] at h1
    subst h1
    refine ⟨_, #[], ?_, by simp, h3, h4.trans (hx.mono h4.size)⟩
    exact leave_bottom (b := base f) rfl hd hf hi (run_results1 hres _ w) (ev_results1 hres _ w)
  have key : @Go3 phC P true (EndS P (fun v w => Post v ∧ Below (selfV W).heap.size (selfV W) w)) (G (Frame.enter P f args .normal) []) (selfV W) := by
    rw [enter_at args hf hb]
    refine hw () (base f) [] [] _ (by simp [base]) fun e a' w' q => ?_
    cases e with
    | normal => exact .ctl rfl (fun _ => stepG_end) (hend a' w' [] q.1 q.2)
    | ret => exact fun todo => hend a' w' todo q.1 q.2
    | exit id => exact q.elim
    | goto l => exact q.elim
    | panic ch => exact q.elim
    | outgrown => exact q.elim
  obtain ⟨M, last, o, w', t', h1, h2, h3, h4⟩ := law_runs (selfV_view W) key
  have hsz : (selfV W).heap.size = W.heap.size := by simp [selfV]
  refine ⟨M, last, o, w', t', h1, h2, h3, Go.Conc.Good.mono h4 fun v hF => ?_⟩
  obtain ⟨v', Sh, ⟨p1, p2⟩, p3, p4, p5⟩ := hF
  exact ⟨p1, p5.below (selfV_view W) p3 p4 (hsz ▸ p2)⟩
theorem runs_to {P : Program} {f : FuncId} {fn : Func} {t : Tmp} {args : Array Value} {W : World} {Post : Value → Prop} {R : Value → World → Prop} (hf : P.funcs[f]? = some fn) (hi : P.inits.idxOf? f = none) (hres : fn.results = #[.tmp t])
    (hR : ∀ v w', Post v → Below W.heap.size W w' → R v w') (h : @CallsQ phC P f args (selfV W) (fun e w' => ∃ v, e = .returned v ∧ Post v ∧ Below (selfV W).heap.size (selfV W) w')) :
    ∃ M last o w' t', runNT P (M + 1) (solo (G (Frame.enter P f args .normal) []) W) #[] = (.ended o w', t') ∧ runN P M (solo (G (Frame.enter P f args .normal) []) W) = .next last ∧ step P last = .ended o w' ∧ Go.Conc.Good P R last o w' t' := by
  obtain ⟨M, last, o, w', t', h1, h2, h3, h4⟩ := runs_of hf hi hres h
  exact ⟨M, last, o, w', t', h1, h2, h3, Go.Conc.Good.mono h4 fun v hF => hR v w' hF.1 hF.2⟩
end Go.Proofs.Ytgeflnjjppgooaa.Y
