/- Arguments that are vectors, lists of these, and wires, opened. -/
import Derived.Test.YtacjcomjnabmhaaShut
import Derived.Test.YtacjcomjnabmhaaOpen
import Derived.Test.YtacjcomjnabmhaaWire
namespace Go.Proofs.Ytacjcomjnabmhaa
open Go.RowKit Go.ChangeShapes Go.WideShapes Go.Deep

section
variable {H : Type} {enc : TypeId × Value → H} {P : Program} {w : World} {base : Nat} {spare : Nat → Bool} {held : Bool}

theorem trod_flt {k : FloatKind} {t : TypeId} {fuel : Nat} {cs : List Value} {x : DataW H × List MemPlace} (ht : P.underlying t = some (.float k)) (h : DataW.trod enc P w base spare held fuel t cs = some x) : ∃ b, cs = [.float k b] ∧ b < 2 ^ k.format.width := by
  have key : ∃ b, cs = [.float k b] ∧ (Lit.float k b).wf = true := by
    cases fuel with
    | zero => simp [DataW.trod] at h
    | succ n =>
      unfold DataW.trod at h
      rw [ht] at h
      split at h <;> simp_all
  obtain ⟨b, h1, h2⟩ := key
  exact ⟨b, h1, wf_lt h2⟩

/-- A struct of three numbers. -/
theorem trod_vec {t : TypeId} {f0 f1 f2 : Field} {fuel : Nat} {cs : List Value} {x : DataW H × List MemPlace} (ht : P.underlying t = some (.struct #[f0, f1, f2])) (ct : P.cellsOf t = 3)
    (o0 : f0.offset = 0) (o1 : f1.offset = 1) (o2 : f2.offset = 2) (k0 : P.underlying f0.type = some (.float .f32)) (k1 : P.underlying f1.type = some (.float .f32)) (k2 : P.underlying f2.type = some (.float .f32))
    (c0 : P.cellsOf f0.type = 1) (c1 : P.cellsOf f1.type = 1) (c2 : P.cellsOf f2.type = 1) (h : DataW.trod enc P w base spare held fuel t cs = some x) :
    ∃ b0 b1 b2, cs = [.float .f32 b0, .float .f32 b1, .float .f32 b2] ∧ b0 < 2 ^ 32 ∧ b1 < 2 ^ 32 ∧ b2 < 2 ^ 32 := by
  obtain ⟨hl, hf⟩ := trod_field ht h
  rw [ct] at hl
  match cs, hl with
  | [v0, v1, v2], _ =>
    obtain ⟨y0, n0, g0⟩ := hf 0 f0 rfl
    obtain ⟨y1, n1, g1⟩ := hf 1 f1 rfl
    obtain ⟨y2, n2, g2⟩ := hf 2 f2 rfl
    rw [o0, c0] at g0
    rw [o1, c1] at g1
    rw [o2, c2] at g2
    obtain ⟨b0, e0, l0⟩ := trod_flt k0 g0
    obtain ⟨b1, e1, l1⟩ := trod_flt k1 g1
    obtain ⟨b2, e2, l2⟩ := trod_flt k2 g2
    simp at e0 e1 e2
    subst e0; subst e1; subst e2
    exact ⟨b0, b1, b2, rfl, l0, l1, l2⟩

theorem vl_get {vs : List V3} {i : Nat} (h : i < vs.length * 3) : (vl vs)[i]? = (vcs (vs.getD (i / 3) z3))[i % 3]? := by
  have hk : i / 3 < vs.length := by omega
  have := take_get (vl_take vs (i / 3) hk) (j := i % 3) (by omega)
  rwa [show i / 3 * 3 + i % 3 = i by omega] at this
theorem add_plain3 {b o k : Nat} : (⟨b, o, none⟩ : Addr).add k = ⟨b, o + k, none⟩ := add_plain _ _ _

/-- A list of vectors. -/
theorem trod_vecs {t e : TypeId} {f0 f1 f2 : Field} {fuel : Nat} {cs : List Value} {x : DataW H × List MemPlace} (ht : P.underlying t = some (.slice e)) (he : P.underlying e = some (.struct #[f0, f1, f2])) (ce : P.cellsOf e = 3)
    (o0 : f0.offset = 0) (o1 : f1.offset = 1) (o2 : f2.offset = 2) (k0 : P.underlying f0.type = some (.float .f32)) (k1 : P.underlying f1.type = some (.float .f32)) (k2 : P.underlying f2.type = some (.float .f32))
    (c0 : P.cellsOf f0.type = 1) (c1 : P.cellsOf f1.type = 1) (c2 : P.cellsOf f2.type = 1) (h : DataW.trod enc P w base spare held fuel t cs = some x) :
    ∃ (a : Option Addr) (vs : List V3) (c : Nat), cs = [.slice a vs.length c] ∧ Cl w a (vl vs) ∧ Cans3 vs ∧ vs.length ≤ 9223372036854775807 := by
  rcases open_slice ht h with ⟨h, _⟩ | ⟨a', len', cap', m, n, D, Pl, rfl, hb, hl, hm, hmm, rfl, hx⟩
  · exact ⟨none, [], 0, h, .inl rfl, (fun v hv => by cases hv), by simp⟩
  · have hlm : len' ≤ m := by rw [hmm]; split <;> omega
    have each : ∀ i, i < len' → ∃ q : Nat × Nat × Nat, (w.cell? (a'.add (i * 3)) = some (.float .f32 q.1) ∧ w.cell? (a'.add (i * 3 + 1)) = some (.float .f32 q.2.1) ∧ w.cell? (a'.add (i * 3 + 2)) = some (.float .f32 q.2.2)) ∧ q.1 < 2 ^ 32 ∧ q.2.1 < 2 ^ 32 ∧ q.2.2 < 2 ^ 32 := by
      intro i hi
      obtain ⟨cs', h1, h2⟩ := hx i (by omega)
      rw [ce] at h1
      obtain ⟨b0, b1, b2, rfl, l0, l1, l2⟩ := trod_vec he ce o0 o1 o2 k0 k1 k2 c0 c1 c2 h2
      obtain ⟨_, _, hcell⟩ := World.cells?_some h1
      have e0 := hcell 0 (by omega)
      have e1 := hcell 1 (by omega)
      have e2 := hcell 2 (by omega)
      rw [add_add] at e0 e1 e2
      exact ⟨(b0, b1, b2), ⟨by simpa using e0, by simpa using e1, by simpa using e2⟩, l0, l1, l2⟩
    obtain ⟨Q, hQ⟩ := choose_lt each
    have hget : ∀ i, i < len' → ((List.range len').map (fun i => ((cb .f32 (Q i).1, cb .f32 (Q i).2.1, cb .f32 (Q i).2.2) : V3))).getD i z3 = (cb .f32 (Q i).1, cb .f32 (Q i).2.1, cb .f32 (Q i).2.2) := fun i hi => by simp [List.getD, hi]
    refine ⟨some a', (List.range len').map (fun i => ((cb .f32 (Q i).1, cb .f32 (Q i).2.1, cb .f32 (Q i).2.2) : V3)), cap', by simp, ?_, ?_, ?_⟩
    · by_cases h0 : len' = 0
      · subst h0; exact .inl rfl
      · have hsp : a'.spot = none := by
          have := (hQ 0 (by omega)).1.1
          simpa [Addr.add] using World.cell?_spot this
        obtain ⟨bk, off, spot⟩ := a'
        simp only at hsp
        subst hsp
        refine .inr ⟨_, rfl, rfl, fun i u hu => ?_⟩
        have hlt : i < len' * 3 := by
          have := (List.getElem?_eq_some_iff.1 hu).1
          simpa [vl_length] using this
        rw [vl_get (by simpa using hlt), hget _ (by omega)] at hu
        obtain ⟨⟨g0, g1, g2⟩, _⟩ := hQ (i / 3) (by omega)
        rw [add_plain] at g0 g1 g2
        have hi3 : i % 3 = 0 ∨ i % 3 = 1 ∨ i % 3 = 2 := by omega
        rcases hi3 with h3 | h3 | h3 <;> rw [h3] at hu <;> simp [vcs] at hu <;> subst hu
        · exact ⟨_, by rw [show off + i = off + i / 3 * 3 by omega]; exact g0, by simp [cn, cn1, cn0]⟩
        · exact ⟨_, by rw [show off + i = off + (i / 3 * 3 + 1) by omega]; exact g1, by simp [cn, cn1, cn0]⟩
        · exact ⟨_, by rw [show off + i = off + (i / 3 * 3 + 2) by omega]; exact g2, by simp [cn, cn1, cn0]⟩
    · intro v hv
      obtain ⟨i, hi, rfl⟩ := List.mem_map.1 hv
      obtain ⟨_, l0, l1, l2⟩ := hQ i (by simpa using hi)
      exact ⟨can_cb .f32 l0, can_cb .f32 l1, can_cb .f32 l2⟩
    · have hml : maxLen ≤ 9223372036854775807 := by decide
      simp; omega

theorem whd_get {f : Nat → Option Addr × Nat} {ws : List Wr} {i : Nat} (h : i < ws.length * 3) : (whd f ws)[i]? = (wcs (f (i / 3)) (ws.getD (i / 3) zw))[i % 3]? := by
  have := take_get (whd_take (f := f) (ws := ws) (k := i / 3) (by omega)) (j := i % 3) (by omega)
  rwa [show i / 3 * 3 + i % 3 = i by omega] at this

/-- A list of wires. -/
theorem trod_wires {t e tp tv tb tf : TypeId} {g0 g1 g2 f0 f1 f2 : Field} {fuel : Nat} {cs : List Value} {x : DataW H × List MemPlace} (ht : P.underlying t = some (.slice e)) (he : P.underlying e = some (.struct #[g0, g1, g2])) (ce : P.cellsOf e = 3)
    (q0 : g0.offset = 0) (q1 : g1.offset = 1) (q2 : g2.offset = 2) (t0 : g0.type = tp) (t1 : g1.type = tb) (t2 : g2.type = tf) (u0 : P.underlying tp = some (.slice tv)) (u1 : P.underlying tb = some .bool) (u2 : P.underlying tf = some (.float .f32))
    (d0 : P.cellsOf tp = 1) (d1 : P.cellsOf tb = 1) (d2 : P.cellsOf tf = 1) (hv : P.underlying tv = some (.struct #[f0, f1, f2])) (cv : P.cellsOf tv = 3)
    (o0 : f0.offset = 0) (o1 : f1.offset = 1) (o2 : f2.offset = 2) (k0 : P.underlying f0.type = some (.float .f32)) (k1 : P.underlying f1.type = some (.float .f32)) (k2 : P.underlying f2.type = some (.float .f32))
    (c0 : P.cellsOf f0.type = 1) (c1 : P.cellsOf f1.type = 1) (c2 : P.cellsOf f2.type = 1) (h : DataW.trod enc P w base spare held fuel t cs = some x) :
    ∃ (a : Option Addr) (f : Nat → Option Addr × Nat) (ws : List Wr) (c : Nat), cs = [.slice a ws.length c] ∧ Cl w a (whd f ws) ∧ WRws w f ws ∧ CansW ws ∧ ws.length ≤ 9223372036854775807 ∧ ∀ i, i < ws.length → (ws.getD i zw).1.length ≤ 9223372036854775807 := by
  rcases open_slice ht h with ⟨h, _⟩ | ⟨a', len', cap', m, n, D, Pl, rfl, hb, hl, hm, hmm, rfl, hx⟩
  · exact ⟨none, fun _ => (none, 0), [], 0, h, .inl rfl, (fun i hi => by simp at hi), (fun v hv => by cases hv), by simp, (fun i hi => by simp at hi)⟩
  · have hlm : len' ≤ m := by rw [hmm]; split <;> omega
    have each : ∀ i, i < len' → ∃ q : (Option Addr × Nat) × (List V3 × Bool × Nat), (w.cell? (a'.add (i * 3)) = some (.slice q.1.1 q.2.1.length q.1.2) ∧ w.cell? (a'.add (i * 3 + 1)) = some (.bool q.2.2.1) ∧ w.cell? (a'.add (i * 3 + 2)) = some (.float .f32 q.2.2.2)) ∧ Cl w q.1.1 (vl q.2.1) ∧ Cans3 q.2.1 ∧ q.2.1.length ≤ 9223372036854775807 ∧ q.2.2.2 < 2 ^ 32 := by
      intro i hi
      obtain ⟨cs', h1, h2⟩ := hx i (by omega)
      rw [ce] at h1
      obtain ⟨hlc, hf⟩ := trod_field he h2
      rw [ce] at hlc
      obtain ⟨_, _, hcell⟩ := World.cells?_some h1
      have e0 := hcell 0 (by omega)
      have e1 := hcell 1 (by omega)
      have e2 := hcell 2 (by omega)
      rw [add_add] at e0 e1 e2
      match cs', hlc with
      | [v0, v1, v2], _ =>
        obtain ⟨y0, n0, r0⟩ := hf 0 g0 rfl
        obtain ⟨y1, n1, r1⟩ := hf 1 g1 rfl
        obtain ⟨y2, n2, r2⟩ := hf 2 g2 rfl
        rw [q0, t0, d0] at r0
        rw [q1, t1, d1] at r1
        rw [q2, t2, d2] at r2
        obtain ⟨a, vs, c, s1, s2, s3, s4⟩ := trod_vecs u0 hv cv o0 o1 o2 k0 k1 k2 c0 c1 c2 r0
        obtain ⟨bb, s5, _⟩ := DataW.trod_bool u1 r1
        obtain ⟨fb, s6, s7⟩ := trod_flt u2 r2
        simp at s1 s5 s6
        subst s1; subst s5; subst s6
        exact ⟨((a, c), (vs, bb, fb)), ⟨by simpa using e0, by simpa using e1, by simpa using e2⟩, s2, s3, s4, s7⟩
    obtain ⟨Q, hQ⟩ := choose_lt each
    have hget : ∀ i, i < len' → ((List.range len').map (fun i => (((Q i).2.1, (Q i).2.2.1, cb .f32 (Q i).2.2.2) : Wr))).getD i zw = ((Q i).2.1, (Q i).2.2.1, cb .f32 (Q i).2.2.2) := fun i hi => by simp [List.getD, hi]
    refine ⟨some a', fun i => (Q i).1, (List.range len').map (fun i => (((Q i).2.1, (Q i).2.2.1, cb .f32 (Q i).2.2.2) : Wr)), cap', by simp, ?_, ?_, ?_, ?_, ?_⟩
    · by_cases h0 : len' = 0
      · subst h0; exact .inl rfl
      · have hsp : a'.spot = none := by
          have := (hQ 0 (by omega)).1.1
          simpa [Addr.add] using World.cell?_spot this
        obtain ⟨bk, off, spot⟩ := a'
        simp only at hsp
        subst hsp
        refine .inr ⟨_, rfl, rfl, fun i u hu => ?_⟩
        have hlt : i < len' * 3 := by
          have := (List.getElem?_eq_some_iff.1 hu).1
          simpa [whd_length] using this
        rw [whd_get (by simpa using hlt), hget _ (by omega)] at hu
        obtain ⟨⟨g0, g1, g2⟩, _⟩ := hQ (i / 3) (by omega)
        rw [add_plain] at g0 g1 g2
        have hi3 : i % 3 = 0 ∨ i % 3 = 1 ∨ i % 3 = 2 := by omega
        rcases hi3 with h3 | h3 | h3 <;> rw [h3] at hu <;> simp [wcs] at hu <;> subst hu
        · exact ⟨_, by rw [show off + i = off + i / 3 * 3 by omega]; exact g0, by simp [cn, cn1, cn0]⟩
        · exact ⟨_, by rw [show off + i = off + (i / 3 * 3 + 1) by omega]; exact g1, by simp [cn, cn1, cn0]⟩
        · exact ⟨_, by rw [show off + i = off + (i / 3 * 3 + 2) by omega]; exact g2, by simp [cn, cn1, cn0]⟩
    · intro i hi
      have hi' : i < len' := by simpa using hi
      rw [hget i hi']
      exact (hQ i hi').2.1
    · intro v hv
      obtain ⟨i, hi, rfl⟩ := List.mem_map.1 hv
      obtain ⟨_, _, l1, _, l2⟩ := hQ i (by simpa using hi)
      exact ⟨l1, can_cb .f32 l2⟩
    · have hml : maxLen ≤ 9223372036854775807 := by decide
      simp; omega
    · intro i hi
      have hi' : i < len' := by simpa using hi
      rw [hget i hi']
      exact (hQ i hi').2.2.2.1
end
end Go.Proofs.Ytacjcomjnabmhaa
