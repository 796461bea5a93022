/- Poles, circuits, desks: plain words. -/
import Derived.Test.YtacjcomjnabmhaaOpenW
import Derived.Test.YtacjcomjnabmhaaFinA
import Derived.Test.YtacjcomjnabmhaaDesign
namespace Go.Proofs.Ytacjcomjnabmhaa
open Go.RowKit Go.ChangeShapes Go.WideShapes Go.Deep

abbrev Pl := V3 × Nat
def zp : Pl := (z3, 0)
def pcs (p : Pl) : List Value := [.float .f32 p.1.1, .float .f32 p.1.2.1, .float .f32 p.1.2.2, .float .f32 p.2]
def pl : List Pl → List Value
  | [] => []
  | p :: ps => .float .f32 p.1.1 :: .float .f32 p.1.2.1 :: .float .f32 p.1.2.2 :: .float .f32 p.2 :: pl ps
def flat4 : List Pl → List Nat
  | [] => []
  | p :: ps => p.1.1 :: p.1.2.1 :: p.1.2.2 :: p.2 :: flat4 ps
theorem pl_flat : ∀ ps : List Pl, pl ps = fl (flat4 ps)
  | [] => rfl
  | p :: ps => by
    have ih := pl_flat ps
    simp only [pl, flat4, ih, fl, List.map_cons]
theorem flat4_length : ∀ ps : List Pl, (flat4 ps).length = ps.length * 4
  | [] => rfl
  | p :: ps => by simp only [flat4, List.length_cons, flat4_length ps]; omega
theorem pl_length : ∀ ps : List Pl, (pl ps).length = ps.length * 4
  | [] => rfl
  | p :: ps => by simp only [pl, List.length_cons, pl_length ps]; omega
theorem pl_append : ∀ us vs : List Pl, pl us ++ pl vs = pl (us ++ vs)
  | [], vs => rfl
  | u :: us, vs => by simp only [pl, List.cons_append, pl_append us vs]
theorem pl_take : ∀ (ps : List Pl) (k : Nat), k < ps.length → ((pl ps).drop (k * 4)).take 4 = pcs (ps.getD k zp)
  | [], _, h => by simp at h
  | p :: ps, 0, _ => rfl
  | p :: ps, k + 1, h => by
    have ih := pl_take ps k (by simpa using h)
    rw [show (k + 1) * 4 = k * 4 + 1 + 1 + 1 + 1 by omega]
    simpa [pl, List.getD] using ih
theorem takeN_get {us cs : List Value} {k z j : Nat} (h : (us.drop k).take z = cs) (hj : j < z) : us[k + j]? = cs[j]? := by
  rw [← h, List.getElem?_take, if_pos hj, List.getElem?_drop]
theorem setAt_mid4 (A B : List Value) (x y z u a b c d : Value) : setAt (A ++ x :: y :: z :: u :: B) A.length [a, b, c, d] = A ++ a :: b :: c :: d :: B := by
  induction A with
  | nil => rfl
  | cons h A _ => simp [setAt]
theorem pl_get {ps : List Pl} {i : Nat} (h : i < ps.length * 4) : (pl ps)[i]? = (pcs (ps.getD (i / 4) zp))[i % 4]? := by
  have hk : i / 4 < ps.length := by omega
  have := takeN_get (pl_take ps (i / 4) hk) (j := i % 4) (by omega)
  rwa [show i / 4 * 4 + i % 4 = i by omega] at this
theorem ptake_snoc {ps : List Pl} {k : Nat} (h : k < ps.length) : ps.take k ++ [ps.getD k zp] = ps.take (k + 1) := by
  rw [List.take_add_one]; simp [h]
def plk (ps : List Pl) (k : Nat) : List Value := pl (ps.take k) ++ cycle [.float .f32 0, .float .f32 0, .float .f32 0, .float .f32 0] (ps.length - k)
theorem plk_length {ps : List Pl} {k : Nat} (h : k ≤ ps.length) : (plk ps k).length = ps.length * 4 := by
  simp only [plk, List.length_append, pl_length, cycle_length, List.length_take, List.length_cons, List.length_nil]
  rw [Nat.min_eq_left h, ← Nat.add_mul]
  congr 1
  omega
theorem plk_set {ps : List Pl} {k : Nat} (h : k < ps.length) : setAt (plk ps k) (k * 4) (pcs (ps.getD k zp)) = plk ps (k + 1) := by
  have hlk : (ps.take k).length = k := by rw [List.length_take]; omega
  have hA : (pl (ps.take k)).length = k * 4 := by rw [pl_length, hlk]
  unfold plk
  rw [show ps.length - k = (ps.length - (k + 1)) + 1 by omega]
  simp only [cycle, List.cons_append, List.nil_append]
  rw [← hA, pcs, setAt_mid4, ← ptake_snoc h, ← pl_append]
  simp [pl]
theorem plk_zero (ps : List Pl) : plk ps 0 = cycle [.float .f32 0, .float .f32 0, .float .f32 0, .float .f32 0] ps.length := by simp [plk, pl]
theorem plk_all (ps : List Pl) : plk ps ps.length = pl ps := by simp [plk, cycle]
def Can4 (p : Pl) : Prop := Can3 p.1 ∧ Can .f32 p.2
def Cans4 (ps : List Pl) : Prop := ∀ p ∈ ps, Can4 p
theorem Cans4.row {ps : List Pl} (h : Cans4 ps) {k : Nat} (hk : k < ps.length) : Can4 (ps.getD k zp) := h _ (by simp [hk])
theorem cans4_nil : Cans4 [] := fun _ h => by cases h
theorem ptake_succ_eq {xs ys : List Pl} {k : Nat} (ht : xs.take k = ys.take k) (hx : k < xs.length) (hy : k < ys.length) (h : xs.getD k zp = ys.getD k zp) : xs.take (k + 1) = ys.take (k + 1) := by
  rw [← ptake_snoc hx, ← ptake_snoc hy, ht, h]
theorem marks4 {ys : List Nat} {k0 : Int} {n k : Nat} (hl : ys.length = n * 4) (ht : ys.take (k * 4) = marks k0 (k * 4)) (hk : k < n) :
    ((((ys.set (k * 4) (FloatKind.f32.nearest (k0 + ((k * 4 : Nat) : Int)))).set (k * 4 + 1) (FloatKind.f32.nearest (k0 + ((k * 4 : Nat) : Int) + 1))).set (k * 4 + 2) (FloatKind.f32.nearest (k0 + ((k * 4 : Nat) : Int) + 1 + 1))).set (k * 4 + 3) (FloatKind.f32.nearest (k0 + ((k * 4 : Nat) : Int) + 1 + 1 + 1))).take ((k + 1) * 4) = marks k0 ((k + 1) * 4) := by
  have h1 := take_marks hl ht (by omega)
  have h2 := take_marks (n := n * 4) (by simp [hl]) h1 (by omega)
  have h3 := take_marks (n := n * 4) (by simp [hl]) h2 (by omega)
  have h4 := take_marks (n := n * 4) (by simp [hl]) h3 (by omega)
  rw [show k0 + ((k * 4 + 1 : Nat) : Int) = k0 + ((k * 4 : Nat) : Int) + 1 by omega, show k0 + ((k * 4 + 1 + 1 : Nat) : Int) = k0 + ((k * 4 : Nat) : Int) + 1 + 1 by omega, show k0 + ((k * 4 + 1 + 1 + 1 : Nat) : Int) = k0 + ((k * 4 : Nat) : Int) + 1 + 1 + 1 by omega] at h4
  rw [show (k + 1) * 4 = k * 4 + 1 + 1 + 1 + 1 by omega]
  exact h4
section
variable {P : Program} {n : Nat} {w0 : World} {O : List Ent} {E : Env} {o : Oper}
theorem yq_loadP {t : TypeId} {x : Operand} {a : Option Addr} {k : Nat} {ps : List Pl} {fs : Array Field} (ho : o.op = .load t x) (ht : P.underlying t = some (.struct fs)) (hz : (P.info? t).map (·.size) = some 4) (hx : E.opd x = some (.pointer (some (adr a (k * 4))))) (hs : Sees w0 O a (pl ps)) (hk : k < ps.length) :
    YQ P w0 O E o (.agg #[.float .f32 (ps.getD k zp).1.1, .float .f32 (ps.getD k zp).1.2.1, .float .f32 (ps.getD k zp).1.2.2, .float .f32 (ps.getD k zp).2]) :=
  yq_loadS (cs := pcs (ps.getD k zp)) ho ht hz hx hs (pl_take ps k hk) rfl rfl
end

/-! ### a list of poles as an argument -/
section
variable {H : Type} {enc : TypeId × Value → H} {P : Program} {w : World} {base : Nat} {spare : Nat → Bool} {held : Bool}
theorem trod_poles {t e tv : TypeId} {g0 g1 f0 f1 f2 : Field} {fuel : Nat} {cs : List Value} {x : DataW H × List MemPlace} (ht : P.underlying t = some (.slice e)) (he : P.underlying e = some (.struct #[g0, g1])) (ce : P.cellsOf e = 4)
    (q0 : g0.offset = 0) (q1 : g1.offset = 3) (t0 : g0.type = tv) (u1 : P.underlying g1.type = some (.float .f32)) (d1 : P.cellsOf g1.type = 1) (hv : P.underlying tv = some (.struct #[f0, f1, f2])) (cv : P.cellsOf tv = 3)
    (o0 : f0.offset = 0) (o1 : f1.offset = 1) (o2 : f2.offset = 2) (k0 : P.underlying f0.type = some (.float .f32)) (k1 : P.underlying f1.type = some (.float .f32)) (k2 : P.underlying f2.type = some (.float .f32))
    (c0 : P.cellsOf f0.type = 1) (c1 : P.cellsOf f1.type = 1) (c2 : P.cellsOf f2.type = 1) (h : DataW.trod enc P w base spare held fuel t cs = some x) :
    ∃ (a : Option Addr) (ps : List Pl) (c : Nat), cs = [.slice a ps.length c] ∧ Cl w a (pl ps) ∧ Cans4 ps ∧ ps.length ≤ 9223372036854775807 := by
  rcases open_slice ht h with ⟨h, _⟩ | ⟨a', len', cap', m, n, D, Pl', rfl, hb, hl, hm, hmm, rfl, hx⟩
  · exact ⟨none, [], 0, h, .inl rfl, (fun v hv => by cases hv), by simp⟩
  · have hlm : len' ≤ m := by rw [hmm]; split <;> omega
    have each : ∀ i, i < len' → ∃ q : (Nat × Nat × Nat) × Nat, (w.cell? (a'.add (i * 4)) = some (.float .f32 q.1.1) ∧ w.cell? (a'.add (i * 4 + 1)) = some (.float .f32 q.1.2.1) ∧ w.cell? (a'.add (i * 4 + 2)) = some (.float .f32 q.1.2.2) ∧ w.cell? (a'.add (i * 4 + 3)) = some (.float .f32 q.2)) ∧ q.1.1 < 2 ^ 32 ∧ q.1.2.1 < 2 ^ 32 ∧ q.1.2.2 < 2 ^ 32 ∧ q.2 < 2 ^ 32 := by
      intro i hi
      obtain ⟨cs', h1, h2⟩ := hx i (by omega)
      rw [ce] at h1
      obtain ⟨hlc, hf⟩ := trod_field he h2
      rw [ce] at hlc
      obtain ⟨_, _, hcell⟩ := World.cells?_some h1
      have e0 := hcell 0 (by omega)
      have e1 := hcell 1 (by omega)
      have e2 := hcell 2 (by omega)
      have e3 := hcell 3 (by omega)
      rw [add_add] at e0 e1 e2 e3
      match cs', hlc with
      | [v0, v1, v2, v3], _ =>
        obtain ⟨y0, n0, r0⟩ := hf 0 g0 rfl
        obtain ⟨y1, n1, r1⟩ := hf 1 g1 rfl
        rw [q0, t0, cv] at r0
        rw [q1, d1] at r1
        obtain ⟨b0, b1, b2, s1, l0, l1, l2⟩ := trod_vec hv cv o0 o1 o2 k0 k1 k2 c0 c1 c2 r0
        obtain ⟨fb, s6, s7⟩ := trod_flt u1 r1
        simp at s1 s6
        obtain ⟨rfl, rfl, rfl⟩ := s1
        subst s6
        exact ⟨((b0, b1, b2), fb), ⟨by simpa using e0, by simpa using e1, by simpa using e2, by simpa using e3⟩, l0, l1, l2, s7⟩
    obtain ⟨Q, hQ⟩ := choose_lt each
    have hget : ∀ i, i < len' → ((List.range len').map (fun i => (((cb .f32 (Q i).1.1, cb .f32 (Q i).1.2.1, cb .f32 (Q i).1.2.2), cb .f32 (Q i).2) : Pl))).getD i zp = ((cb .f32 (Q i).1.1, cb .f32 (Q i).1.2.1, cb .f32 (Q i).1.2.2), cb .f32 (Q i).2) := fun i hi => by simp [List.getD, hi]
    refine ⟨some a', (List.range len').map (fun i => (((cb .f32 (Q i).1.1, cb .f32 (Q i).1.2.1, cb .f32 (Q i).1.2.2), cb .f32 (Q i).2) : Pl)), cap', by simp, ?_, ?_, ?_⟩
    · by_cases h0 : len' = 0
      · subst h0; exact .inl rfl
      · have hsp : a'.spot = none := by
          have := (hQ 0 (by omega)).1.1
          simpa [Addr.add] using World.cell?_spot this
        obtain ⟨bk, off, spot⟩ := a'
        simp only at hsp
        subst hsp
        refine .inr ⟨_, rfl, rfl, fun i u hu => ?_⟩
        have hlt : i < len' * 4 := by
          have := (List.getElem?_eq_some_iff.1 hu).1
          simpa [pl_length] using this
        rw [pl_get (by simpa using hlt), hget _ (by omega)] at hu
        obtain ⟨⟨g0, g1, g2, g3⟩, _⟩ := hQ (i / 4) (by omega)
        rw [add_plain] at g0 g1 g2 g3
        have hi4 : i % 4 = 0 ∨ i % 4 = 1 ∨ i % 4 = 2 ∨ i % 4 = 3 := by omega
        rcases hi4 with h3 | h3 | h3 | h3 <;> rw [h3] at hu <;> simp [pcs] at hu <;> subst hu
        · exact ⟨_, by rw [show off + i = off + i / 4 * 4 by omega]; exact g0, by simp [cn, cn1, cn0]⟩
        · exact ⟨_, by rw [show off + i = off + (i / 4 * 4 + 1) by omega]; exact g1, by simp [cn, cn1, cn0]⟩
        · exact ⟨_, by rw [show off + i = off + (i / 4 * 4 + 2) by omega]; exact g2, by simp [cn, cn1, cn0]⟩
        · exact ⟨_, by rw [show off + i = off + (i / 4 * 4 + 3) by omega]; exact g3, by simp [cn, cn1, cn0]⟩
    · intro v hv
      obtain ⟨i, hi, rfl⟩ := List.mem_map.1 hv
      obtain ⟨_, l0, l1, l2, l3⟩ := hQ i (by simpa using hi)
      exact ⟨⟨can_cb .f32 l0, can_cb .f32 l1, can_cb .f32 l2⟩, can_cb .f32 l3⟩
    · have hml : maxLen ≤ 9223372036854775807 := by decide
      simp; omega
end

/-! ### circuits -/
def coil (zs : List Nat) (n i j : Nat) : Nat := zs.getD (i * n + j) 0
def CircP (xs ys zs : List Nat) : Prop := (1 ≤ xs.length ∧ xs.length ≤ 6 ∧ ys.length = xs.length ∧ zs.length = xs.length * xs.length) ∧ xs.all least = true ∧ ys.all least = true ∧ zs.all fin = true ∧
  ∀ i, i < xs.length → fcmp .gtr .f32 (coil zs xs.length i i) 0 = true ∧ ∀ j, j < i → fcmp .neq .f32 (coil zs xs.length i j) (coil zs xs.length j i) = false
noncomputable def circOk (xs ys zs : List Nat) : Bool := @decide (CircP xs ys zs) (Classical.propDecidable _)
theorem circ_yes {xs ys zs : List Nat} (h : CircP xs ys zs) : true = circOk xs ys zs := by unfold circOk; exact (@decide_eq_true _ (Classical.propDecidable _) h).symm
theorem circ_no {xs ys zs : List Nat} (h : ¬ CircP xs ys zs) : false = circOk xs ys zs := by unfold circOk; exact (@decide_eq_false _ (Classical.propDecidable _) h).symm
theorem sq_lt {n i j : Nat} (hi : i < n) (hj : j < n) : i * n + j < n * n := by
  have : i * n + n ≤ n * n := by rw [← Nat.succ_mul]; exact Nat.mul_le_mul_right _ hi
  omega
theorem icompare_eq {x y : Int} (h : compare x y = .eq) : x = y := by
  change compareOfLessAndEq x y = .eq at h
  unfold compareOfLessAndEq at h
  split at h
  · cases h
  · split at h
    · assumption
    · cases h
theorem ord_eq_comm : ∀ d e : Ieee.Datum, d.order e = some .eq → e.order d = some .eq
  | .number s m e, .number s' m' e', h => by
    simp only [Ieee.Datum.order] at h ⊢
    rw [Int.min_comm]
    simp only [Option.some.injEq] at h ⊢
    have e := icompare_eq h
    rw [e] at h ⊢
    exact h
  | .infinity s, .infinity t, h => by cases s <;> cases t <;> simp [Ieee.Datum.order] at h ⊢
  | .infinity s, .number _ _ _, h => by cases s <;> simp [Ieee.Datum.order] at h
  | .number _ _ _, .infinity s, h => by cases s <;> simp [Ieee.Datum.order] at h
  | .nan _ _, _, h => by simp [Ieee.Datum.order] at h
  | .number _ _ _, .nan _ _, h => by simp [Ieee.Datum.order] at h
  | .infinity _, .nan _ _, h => by simp [Ieee.Datum.order] at h
theorem fcmp_neq_comm {a b : Nat} (h : fcmp .neq .f32 a b = false) : fcmp .neq .f32 b a = false := by
  unfold fcmp at h ⊢
  simp only [bne_eq_false_iff_eq] at h ⊢
  exact ord_eq_comm _ _ h
theorem getD_all {p : Nat → Bool} {xs : List Nat} (h : xs.all p = true) {i : Nat} (hi : i < xs.length) : p (xs.getD i 0) = true := all_getD.1 h i hi
theorem circ_fin {zs : List Nat} {n : Nat} (hl : zs.length = n * n) (h : ∀ i j, i < n → j < n → fin (coil zs n i j) = true) : zs.all fin = true := by
  refine all_getD.2 fun k hk => ?_
  rw [hl] at hk
  have hn : 0 < n := by
    rcases Nat.eq_zero_or_pos n with e | e
    · subst e; simp at hk
    · exact e
  have h1 := h (k / n) (k % n) (Nat.div_lt_of_lt_mul hk) (Nat.mod_lt _ hn)
  unfold coil at h1
  rwa [Nat.mul_comm, Nat.div_add_mod] at h1
theorem circ_sym {zs : List Nat} {n : Nat} (hf : zs.all fin = true) (hl : zs.length = n * n) (h : ∀ i, i < n → fcmp .gtr .f32 (coil zs n i i) 0 = true ∧ ∀ j, j < i → fcmp .neq .f32 (coil zs n i j) (coil zs n j i) = false) {i j : Nat} (hi : i < n) (hj : j < n) : fcmp .neq .f32 (coil zs n i j) (coil zs n j i) = false := by
  rcases Nat.lt_trichotomy j i with h1 | h1 | h1
  · exact (h i hi).2 j h1
  · subst h1
    rw [fne_self]
    exact fin_num (getD_all (p := fin) hf (by rw [hl]; exact sq_lt hi hi))
  · exact fcmp_neq_comm ((h j hj).2 i h1)
noncomputable def deskOk (ws : List Wr) (ps : List Pl) (xs ys zs : List Nat) : Bool := wiresOk ws && decide (ps.length ≤ 24) && circOk xs ys zs
theorem desk_1 {ws : List Wr} {ps : List Pl} {xs ys zs : List Nat} (h : wiresOk ws = false) : false = deskOk ws ps xs ys zs := by unfold deskOk; rw [h]; rfl
theorem desk_2 {ws : List Wr} {ps : List Pl} {xs ys zs : List Nat} (h : decide (ps.length ≤ 24) = false) : false = deskOk ws ps xs ys zs := by unfold deskOk; rw [h, Bool.and_false]; rfl
theorem desk_3 {ws : List Wr} {ps : List Pl} {xs ys zs : List Nat} (h : wiresOk ws = true) (h2 : decide (ps.length ≤ 24) = true) : circOk xs ys zs = deskOk ws ps xs ys zs := by unfold deskOk; rw [h, h2]; rfl
theorem desk_is {ws : List Wr} {ps : List Pl} {xs ys zs : List Nat} (h : deskOk ws ps xs ys zs = true) : wiresOk ws = true ∧ ps.length ≤ 24 := by
  unfold deskOk at h
  simp only [Bool.and_eq_true, decide_eq_true_eq] at h
  exact h.1

theorem Pick.e3 {O1 O2 O F : List Ent} {e1 e2 e3 : Ent} (h1 : Rem O [e1] O1) (h2 : Rem O1 [e2] O2) (h3 : Rem O2 [e3] F) : Pick O [e1, e2, e3] F := Pick.take h1 (Pick.take h2 (Pick.take h3 .nil))
theorem cansW0 : CansW [] := fun _ h => by cases h
theorem can_1 : ∀ x ∈ [1065353216], Can .f32 x := fun x hx => by rw [List.mem_singleton] at hx; subst hx; exact ⟨by decide, by decide⟩
theorem can_0 : ∀ x ∈ [0], Can .f32 x := fun x hx => by rw [List.mem_singleton] at hx; subst hx; exact can_f0

/-! ### the field of poles -/
def cube (r : Nat) : Nat := fop .mul .f32 (fop .mul .f32 r r) r
def poleF (p : Pl) (v : V3) : V3 := if fcmp .gtr .f32 (long3 (sub3 v p.1)) 0 then scale3 (sub3 v p.1) (fop .quo .f32 p.2 (cube (long3 (sub3 v p.1)))) else z3
theorem poleF_yes {p : Pl} {v : V3} (h : fcmp .gtr .f32 (long3 (sub3 v p.1)) 0 = true) : scale3 (sub3 v p.1) (fop .quo .f32 p.2 (cube (long3 (sub3 v p.1)))) = poleF p v := by unfold poleF; rw [h]; rfl
theorem poleF_no {p : Pl} {v : V3} (h : fcmp .gtr .f32 (long3 (sub3 v p.1)) 0 = false) : z3 = poleF p v := by unfold poleF; rw [h]; rfl
def sumP (ps : List Pl) (v : V3) : Nat → V3
  | 0 => z3
  | k + 1 => add3 (sumP ps v k) (poleF (ps.getD k zp) v)
theorem pl_take3 {ps : List Pl} {k : Nat} (h : k < ps.length) : ((pl ps).drop (k * 4 + 0)).take 3 = [.float .f32 (ps.getD k zp).1.1, .float .f32 (ps.getD k zp).1.2.1, .float .f32 (ps.getD k zp).1.2.2] := by
  have h1 := congrArg (List.take 3) (pl_take ps k h)
  rw [List.take_take] at h1
  exact h1
theorem pl_get3 {ps : List Pl} {k : Nat} (h : k < ps.length) : (pl ps)[k * 4 + 3]? = some (.float .f32 (ps.getD k zp).2) := takeN_get (pl_take ps k h) (j := 3) (by omega)
noncomputable def fdOk (ws : List Wr) (ps : List Pl) (xs ys zs : List Nat) (v : V3) : Bool := deskOk ws ps xs ys zs && (fin3 v && fin3 (fieldI ws v))
noncomputable def fdV (ws : List Wr) (ps : List Pl) (xs ys zs : List Nat) (v : V3) : V3 := if fdOk ws ps xs ys zs v then add3 (fieldI ws v) (sumP ps v ps.length) else z3
section
variable {ws : List Wr} {ps : List Pl} {xs ys zs : List Nat} {v : V3}
theorem fd_yes (h : deskOk ws ps xs ys zs = true) (h2 : (fin3 v && fin3 (fieldI ws v)) = true) : fdOk ws ps xs ys zs v = true := by unfold fdOk; rw [h, h2]; rfl
theorem fd_no1 (h : deskOk ws ps xs ys zs = false) : fdOk ws ps xs ys zs v = false := by unfold fdOk; rw [h]; rfl
theorem fd_no2 (h2 : (fin3 v && fin3 (fieldI ws v)) = false) : fdOk ws ps xs ys zs v = false := by unfold fdOk; rw [h2, Bool.and_false]
theorem fdV_yes (h : fdOk ws ps xs ys zs v = true) : fdV ws ps xs ys zs v = add3 (fieldI ws v) (sumP ps v ps.length) := by unfold fdV; rw [h]; rfl
theorem fdV_no (h : fdOk ws ps xs ys zs v = false) : fdV ws ps xs ys zs v = z3 := by unfold fdV; rw [h]; rfl
theorem can_fdV : Can3 (fdV ws ps xs ys zs v) := by unfold fdV; split; exact can_add3 _ _; exact can_z3
end
end Go.Proofs.Ytacjcomjnabmhaa
