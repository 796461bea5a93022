/- Own texts of this claim, merged: Nar, Shut, Nest, Solve, Design, Bits, Exact, Draw, In, Root, Vec, Wire, Field, Flat, Line, FinA, PackA, Slice, Bytes, Mesh, PackB, PackC, Sharp, SharpB, SharpC, AbsA, Text, Unp, Narrow, UnpB, UnpC, UnpD, UnpE, UnpF, UnpG, MaxF, Rnd, R8, OpenB, WBase, WFl, WSteps, WSolve, Chol, WChol, WIn. -/
import Derived.Deep.Slices
import Derived.Laws.Cover2
import Derived.Carry
import Derived.ProofKit
import Derived.Laws.BytesString
import Derived.Test.YtfeciemlhiclbaaProg
import Derived.KernelRfl
import Derived.Test.YtfeciemlhiclbaaKFnFilled1
namespace Go.Proofs.Ytfeciemlhiclbaa
open Go.RowKit

theorem shl_eq (a b : Nat) : a <<< b = a * 2 ^ b := Nat.shiftLeft_eq a b
theorem log2_mul_pow {m : Nat} (h : m ≠ 0) (k : Nat) : (m * 2 ^ k).log2 = m.log2 + k := by
  have h1 := Nat.log2_self_le h
  have h2 : m < 2 ^ (m.log2 + 1) := Nat.lt_log2_self
  have hne : m * 2 ^ k ≠ 0 := Nat.mul_ne_zero h (Nat.ne_of_gt (pow_pos' k))
  apply Nat.le_antisymm
  · have : m * 2 ^ k < 2 ^ (m.log2 + k + 1) := by
      rw [show m.log2 + k + 1 = (m.log2 + 1) + k by omega, Nat.pow_add]
      exact Nat.mul_lt_mul_of_pos_right h2 (pow_pos' k)
    have := (Nat.log2_lt hne).2 this
    omega
  · rw [Nat.le_log2 hne, Nat.pow_add]
    exact Nat.mul_le_mul_right _ h1

/-- What is cut is at most one more than the quotient. -/
theorem cut_le (s : Bool) (n drop : Nat) : Ieee.Toward.even.cut s n drop ≤ n / 2 ^ min drop (n.log2 + 2) + 1 := by
  unfold Ieee.Toward.cut
  simp only [shl_eq, Nat.one_mul]
  generalize n / 2 ^ min drop (n.log2 + 2) = q
  have : ∀ b : Bool, q + b.toNat ≤ q + 1 := fun b => by cases b <;> simp
  exact this _
theorem cut_zero (s : Bool) (n : Nat) : Ieee.Toward.even.cut s n 0 = n := by
  unfold Ieee.Toward.cut
  simp [Nat.mod_one]
theorem cut_exact (s : Bool) (a d : Nat) (ha : a ≠ 0) : Ieee.Toward.even.cut s (a * 2 ^ d) d = a := by
  unfold Ieee.Toward.cut
  have hl := log2_mul_pow ha d
  have hmin : min d ((a * 2 ^ d).log2 + 2) = d := by rw [hl]; omega
  simp only [shl_eq, Nat.one_mul, hmin]
  have h1 : a * 2 ^ d / 2 ^ d = a := Nat.mul_div_cancel _ (pow_pos' d)
  have h2 : a * 2 ^ d % 2 ^ d = 0 := Nat.mul_mod_left _ _
  rw [h1, h2]
  have hp := pow_pos' d
  have : (decide (2 ^ d < 2 * 0) || 2 ^ d == 2 * 0 && a % 2 == 1) = false := by
    have : (2 ^ d == 2 * 0) = false := by rw [beq_eq_false_iff_ne]; omega
    rw [this]; simp
  rw [this]; rfl

/-- the kept digits of a number are at most 2 ^ (fraction bits + 1) -/
theorem kept_le (s : Bool) {m f : Nat} {place last : Int} (h : place + m.log2 - f ≤ last) : Ieee.Toward.even.cut s (m <<< (place - last).toNat) (last - place).toNat ≤ 2 ^ (f + 1) := by
  have hup : m < 2 ^ (m.log2 + 1) := Nat.lt_log2_self
  rcases Int.le_total last place with hle | hle
  · have e1 : (last - place).toNat = 0 := by omega
    rw [e1, cut_zero, shl_eq]
    have : m * 2 ^ (place - last).toNat < 2 ^ (m.log2 + 1) * 2 ^ (place - last).toNat := Nat.mul_lt_mul_of_pos_right hup (pow_pos' _)
    rw [← Nat.pow_add] at this
    have h3 : 2 ^ (m.log2 + 1 + (place - last).toNat) ≤ 2 ^ (f + 1) := Nat.pow_le_pow_right (by decide) (by omega)
    omega
  · have e1 : (place - last).toNat = 0 := by omega
    rw [e1, shl_eq, Nat.pow_zero, Nat.mul_one]
    refine Nat.le_trans (cut_le s m _) ?_
    generalize hd : (last - place).toNat = d
    have hfd : m.log2 + 1 ≤ f + 1 + d := by omega
    -- the quotient is below 2 ^ (f + 1)
    have : m / 2 ^ min d (m.log2 + 2) < 2 ^ (f + 1) := by
      rw [Nat.div_lt_iff_lt_mul (pow_pos' _), ← Nat.pow_add]
      exact Nat.lt_of_lt_of_le hup (Nat.pow_le_pow_right (by decide) (by omega))
    omega

/-- The rung of a nearest word. -/
theorem nearest_rung (f : Ieee.Format) (s : Bool) {m : Nat} {place : Int} {t : Nat} (h : place + m.log2 ≤ f.leastPlace + f.fractionBits + t) :
    ∃ r, f.nearest s m place = f.word s r ∧ r ≤ (t + 2) * f.binade := by
  unfold Ieee.Format.nearest
  by_cases hm : m = 0
  · rw [if_pos hm]; exact ⟨0, rfl, Nat.zero_le _⟩
  · rw [if_neg hm]
    refine ⟨_, rfl, Nat.le_trans (Nat.min_le_left _ _) ?_⟩
    have hk := kept_le s (m := m) (f := f.fractionBits) (place := place) (last := max (place + (m.log2 : Int) - (f.fractionBits : Int)) f.leastPlace) (Int.le_max_left _ _)
    have hb : 2 ^ (f.fractionBits + 1) = 2 * f.binade := by rw [Nat.pow_succ, Nat.mul_comm]; rfl
    rw [hb] at hk
    have ht : (max (place + (m.log2 : Int) - (f.fractionBits : Int)) f.leastPlace - f.leastPlace).toNat ≤ t := by omega
    have := Nat.mul_le_mul_right f.binade ht
    rw [Nat.add_mul]
    exact Nat.add_le_add this hk

theorem single_word_fin (s : Bool) {r : Nat} (h : r < 2139095040) : (FloatKind.f32.decode (Ieee.single.word s r)).isInfinity = false := by
  have hsw : Ieee.single.signWeight = 2147483648 := by decide
  have hinf : Ieee.single.infRung = 2139095040 := by decide
  have e : Ieee.single.word s r % 2147483648 = r := by
    unfold Ieee.Format.word; rw [hsw]; split <;> omega
  unfold FloatKind.decode FloatKind.format Ieee.Format.read
  simp only [hsw, hinf, e]
  by_cases h1 : r < Ieee.single.binade
  · rw [if_pos h1]; rfl
  · rw [if_neg h1, if_pos h]; rfl

/-- A number below 2 ^ 127 is narrowed to a number. -/
theorem narrow_small (s : Bool) {m : Nat} {e : Int} (h : e + m.log2 ≤ 126) : (FloatKind.f32.decode (FloatKind.f32.encode (.number s m e))).isInfinity = false := by
  have hlp : Ieee.single.leastPlace = -149 := by decide
  have hfb : Ieee.single.fractionBits = 23 := rfl
  have hb : Ieee.single.binade = 8388608 := by decide
  obtain ⟨r, h1, h2⟩ := nearest_rung Ieee.single s (m := m) (place := e) (t := 252) (by rw [hlp, hfb]; omega)
  show (FloatKind.f32.decode (Ieee.single.nearest s m e)).isInfinity = false
  rw [h1]
  exact single_word_fin s (by rw [hb] at h2; omega)

/-! ### what is rounded to a whole number -/
theorem decode_double_bound {x : Nat} {s : Bool} {m : Nat} {e : Int} (h : FloatKind.f64.decode x = .number s m e) : m < 2 ^ 53 ∧ -1074 ≤ e ∧ (e = -1074 ∨ 2 ^ 52 ≤ m) ∧ e ≤ 971 := by
  have hsw : FloatKind.f64.format.signWeight = 9223372036854775808 := by decide
  have hinf : FloatKind.f64.format.infRung = 9218868437227405312 := by decide
  have hbin : FloatKind.f64.format.binade = 4503599627370496 := by decide
  have hlp : FloatKind.f64.format.leastPlace = -1074 := by decide
  unfold FloatKind.decode Ieee.Format.read at h
  simp only [hsw, hinf, hbin, hlp] at h
  split at h
  · cases h; omega
  · split at h
    · cases h
      have : x % 9223372036854775808 / 4503599627370496 ≤ 2046 := by omega
      have : 1 ≤ x % 9223372036854775808 / 4503599627370496 := by omega
      omega
    · split at h <;> cases h

/-- a double word's number is below 2 ^ (t + 1) if its rung is below .. -/
theorem decode_word_double (s : Bool) {r : Nat} (hr : r < 9218868437227405312) : ∃ m e, FloatKind.f64.decode (Ieee.double.word s r) = .number s m e ∧ e + m.log2 ≤ -1074 + 52 + (r / 4503599627370496 : Nat) := by
  have hsw : Ieee.double.signWeight = 9223372036854775808 := by decide
  have hinf : Ieee.double.infRung = 9218868437227405312 := by decide
  have hbin : Ieee.double.binade = 4503599627370496 := by decide
  have hlp : Ieee.double.leastPlace = -1074 := by decide
  have hw := double_word s (r := r) (by omega)
  have hm : Ieee.double.word s r % 9223372036854775808 = r := by have := hw.2; unfold rng at this; rwa [hsw] at this
  have hs : (Ieee.double.word s r / 9223372036854775808 % 2 == 1) = s := by have := hw.1; unfold sgn at this; rwa [hsw] at this
  unfold FloatKind.decode FloatKind.format Ieee.Format.read
  simp only [hsw, hinf, hbin, hlp, hm, hs]
  by_cases h1 : r < 4503599627370496
  · rw [if_pos h1]
    refine ⟨r, -1074, rfl, ?_⟩
    have hl : r.log2 ≤ 52 := by
      by_cases h0 : r = 0
      · subst h0; decide
      · have := (Nat.log2_lt h0 (k := 52)).2 h1
        omega
    omega
  · rw [if_neg h1, if_pos hr]
    refine ⟨_, _, rfl, ?_⟩
    have hl : (4503599627370496 + r % 4503599627370496).log2 ≤ 52 := by
      have h2 : 4503599627370496 + r % 4503599627370496 < 2 ^ 53 := by
        have : (2 : Nat) ^ 53 = 9007199254740992 := by decide
        omega
      have := (Nat.log2_lt (by omega)).2 h2
      omega
    have : 1 ≤ r / 4503599627370496 := by omega
    omega

theorem fover_small {x : Nat} {s : Bool} {m : Nat} {e : Int} (hx : FloatKind.f64.decode x = .number s m e) (h : e + m.log2 ≤ 126) : fover .f64 .f32 x = false := by
  unfold fover
  rw [if_neg (by decide), hx]
  exact narrow_small s h

theorem encode_small (s : Bool) {m : Nat} {e : Int} {t : Nat} (h : e + m.log2 ≤ -1074 + 52 + (t : Int)) (ht : t ≤ 2000) : ∃ m' e', FloatKind.f64.decode (FloatKind.f64.encode (.number s m e)) = .number s m' e' ∧ e' + m'.log2 ≤ -1074 + 52 + ((t + 2 : Nat) : Int) := by
  have hlp : Ieee.double.leastPlace = -1074 := by decide
  have hfb : Ieee.double.fractionBits = 52 := rfl
  have hbin : Ieee.double.binade = 4503599627370496 := by decide
  obtain ⟨r, h1, h2⟩ := nearest_rung Ieee.double s (m := m) (place := e) (t := t) (by rw [hlp, hfb]; omega)
  rw [hbin] at h2
  show ∃ m' e', FloatKind.f64.decode (Ieee.double.nearest s m e) = .number s m' e' ∧ _
  rw [h1]
  obtain ⟨m', e', g1, g2⟩ := decode_word_double s (r := r) (by omega)
  refine ⟨m', e', g1, Int.le_trans g2 ?_⟩
  have : r / 4503599627370496 ≤ t + 2 := by omega
  omega

/-! ### steps -/
end Go.Proofs.Ytfeciemlhiclbaa


namespace Go.Proofs.Ytfeciemlhiclbaa
open Go.RowKit Go.ChangeShapes Go.WideShapes Go.Deep

section
variable {H : Type} {enc : TypeId × Value → H} {P : Program}

def parB (P : Program) (ts : List TypeId) : Bool := ts.all fun t => P.readableRec t && decide (t < P.types.size)

theorem trodAll_below {W W' : World} (hl : laidOutB P = true) (hb : Below W.heap.size W W') {sp : Nat → Bool} : ∀ {ts : List TypeId} {vs : List Value} {ds : List (DataW H)} {ps : List MemPlace}, parB P ts = true → DataW.TrodAll enc P W 0 (fun _ => true) true ts vs ds ps →
    (∀ x ∈ ps, x.block < W.heap.size) → (∀ x ∈ ps, sp x.block = true) → DataW.TrodAll enc P W' 0 sp true ts vs ds ps
  | [], _, _, _, _, h, _, _ => by
    obtain ⟨rfl, rfl, rfl⟩ := trodAll_nil h
    exact trodAll_mk0
  | t :: ts, _, _, _, hp, h, hlt, hs => by
    obtain ⟨v, vs, d, ds, p, q, rfl, rfl, rfl, h1, h2⟩ := trodAll_cons h
    simp only [parB, List.all_cons, Bool.and_eq_true, decide_eq_true_eq] at hp
    refine ⟨p, q, WideElems.Trod_stays hl hp.1.1 hp.1.2 h1 (fun x hx => hb.same (hlt x (List.mem_append_left _ hx))) (fun x hx => hs x (List.mem_append_left _ hx)), ?_, rfl⟩
    exact trodAll_below hl hb (by simpa [parB] using hp.2) h2 (fun x hx => hlt x (List.mem_append_right _ hx)) (fun x hx => hs x (List.mem_append_right _ hx))

/-- A law that only reads: true, and each argument reads as it did. -/
theorem law_post {f : Func} {s : ChangeSpec} {fresh handsOn again : Bool} {W W' : World} {args : Array Value} {ds gs : List (DataW H)} {before : List MemPlace} {t : TypeId}
    (hl : laidOutB P = true) (hpar : parB P f.params.toList = true) (hrt : f.resultTypes = #[t]) (ht : P.underlying t = some .bool) (hvars : s.vars = [])
    (hfn : s.fn H (ds ++ gs) = { results := [.lit (.bool true)], args := ds })
    (hW : DataW.Whole enc P f.params.toList s.vars false W args.toList ds gs before) (hb : Below W.heap.size W W') : s.post enc P f false fresh handsOn again W args (.bool true) W' := by
  have hW' := hW
  obtain ⟨p, q, hA, hV, rfl, hfz, hnd⟩ := hW'
  rw [hvars] at hV
  obtain ⟨rfl, rfl⟩ := trodVars_none hV
  have hlt : ∀ x ∈ p, x.block < W.heap.size := fun x hx => by simpa using hW.lt x (by simpa using hx)
  have hres : ∀ (b : Nat) (sp : Nat → Bool) (hd : Bool), DataW.TrodAll enc P W' b sp hd f.resultTypes.toList ((Value.bool true).resultList f.resultTypes.size) (s.fn H (ds ++ [])).results [] := by
    intro b sp hd
    rw [hfn, hrt]
    exact trodAll_mk1 (shut_bool ht true)
  have hargs : ∀ sp : Nat → Bool, (∀ x ∈ p, sp x.block = true) → DataW.TrodAll enc P W' 0 sp true f.params.toList args.toList (s.fn H (ds ++ [])).args p := by
    intro sp hs
    rw [hfn]
    exact trodAll_below hl hb hpar hA hlt hs
  have hvs : ∀ sp : Nat → Bool, DataW.TrodVars enc P W' sp s.vars (s.fn H (ds ++ [])).vars [] := by
    intro sp
    rw [hvars, hfn]
    rfl
  refine ⟨ds, [], _, [], p, [], hW, hres _ _ _, hargs _ (fun x hx => by simpa using hlt x hx), hvs _, hb.frame _, fun _ => ?_⟩
  refine ⟨ok_one hrt rfl (okWide_bool_mk ht true), _, _, ([] ++ p) ++ [], ⟨[] ++ p, [], trodAll_append (hargs _ (fun _ _ => rfl)) (hres _ _ _), hvs _, rfl, ?_, fun h => by cases h⟩, ?_⟩
  · intro b off hp
    have hp' : MemPlace.cell b off ∈ p := by simpa using hp
    rw [hb.frozen (p := ⟨b, off, none⟩) (hlt _ hp')]
    exact hfz b off (by simpa using hp')
  · intro x hx _
    simpa using hx

end
end Go.Proofs.Ytfeciemlhiclbaa


namespace Go.Proofs.Ytfeciemlhiclbaa
open Go.RowKit

def hd (f : Nat → Option Addr × Nat) (xss : List (List Nat)) : List Value := (List.range xss.length).map fun i => .slice (f i).1 (xss.getD i []).length (f i).2
def rents (t : TypeId) (f : Nat → Option Addr × Nat) (xss : List (List Nat)) : List Ent := (List.range xss.length).map fun i => ⟨(f i).1, fl (xss.getD i []), (f i).2 * 1, t⟩
theorem hd_length (f : Nat → Option Addr × Nat) (xss : List (List Nat)) : (hd f xss).length = xss.length := by simp [hd]
theorem rents_mem {t : TypeId} {f : Nat → Option Addr × Nat} {xss : List (List Nat)} {i : Nat} (h : i < xss.length) : (⟨(f i).1, fl (xss.getD i []), (f i).2 * 1, t⟩ : Ent) ∈ rents t f xss := by
  unfold rents
  exact List.mem_map.2 ⟨i, by simpa using h, rfl⟩
/-- Each row's cells lie where its header says. -/
def Rws (w : World) (f : Nat → Option Addr × Nat) (xss : List (List Nat)) : Prop := ∀ i, i < xss.length → Cl w (f i).1 (fl (xss.getD i []))
theorem Rws.below {w w' : World} {f : Nat → Option Addr × Nat} {xss : List (List Nat)} (h : Rws w f xss) (hb : Below w.heap.size w w') : Rws w' f xss := fun i hi => (h i hi).below hb
theorem Rws.root {w0 w : World} {O : List Ent} {f : Nat → Option Addr × Nat} {xss : List (List Nat)} (h : Rws w0 f xss) (hw : Hp w0 O w) : Rws w f xss := h.below hw.below
inductive RowsIn : List Ent → TypeId → (Nat → Option Addr × Nat) → List (List Nat) → Prop
  | here {t : TypeId} {f : Nat → Option Addr × Nat} {xss : List (List Nat)} {O : List Ent} : RowsIn (rents t f xss ++ O) t f xss
  | last {t : TypeId} {f : Nat → Option Addr × Nat} {xss : List (List Nat)} : RowsIn (rents t f xss) t f xss
  | there {t : TypeId} {f : Nat → Option Addr × Nat} {xss : List (List Nat)} {e : Ent} {O : List Ent} : RowsIn O t f xss → RowsIn (e :: O) t f xss
  | thereS {t : TypeId} {f : Nat → Option Addr × Nat} {xss : List (List Nat)} {S O : List Ent} : RowsIn O t f xss → RowsIn (S ++ O) t f xss
theorem RowsIn.mem {O : List Ent} {t : TypeId} {f : Nat → Option Addr × Nat} {xss : List (List Nat)} (h : RowsIn O t f xss) : ∀ i, i < xss.length → (⟨(f i).1, fl (xss.getD i []), (f i).2 * 1, t⟩ : Ent) ∈ O := by
  induction h with
  | here => exact fun i hi => List.mem_append_left _ (rents_mem hi)
  | last => exact fun i hi => rents_mem hi
  | there _ ih => exact fun i hi => List.mem_cons_of_mem _ (ih i hi)
  | thereS _ ih => exact fun i hi => List.mem_append_right _ (ih i hi)
theorem Rws.own {w0 w : World} {O : List Ent} {t : TypeId} {f : Nat → Option Addr × Nat} {xss : List (List Nat)} (h : RowsIn O t f xss) (hw : Hp w0 O w) : Rws w f xss := fun i hi => Sees.own (h.mem i hi) w hw
def Cans (xss : List (List Nat)) : Prop := ∀ xs ∈ xss, ∀ x ∈ xs, Can .f32 x
theorem Cans.row {xss : List (List Nat)} (h : Cans xss) {k : Nat} (hk : k < xss.length) : ∀ x ∈ xss.getD k [], Can .f32 x := h _ (by simp [hk])

/-! ### sizes -/
/-! ### rows that are marked -/
section
variable {P : Program} {n : Nat} {w0 : World} {O : List Ent} {E : Env} {o : Oper}
/-! ### results that lie in cells -/
def rdRes (tmps : Array Value) : ResultVar → Sem Value
  | .tmp t => pure (tmps.getD t undef)
  | .cell c t => do loadVar t (← asAddr (tmps.getD c undef))
theorem results_rd (fn : Func) (tmps : Array Value) : results fn tmps = (do let vs ← fn.results.mapM (rdRes tmps); pure (if h : vs.size = 1 then vs[0] else .tuple vs)) := by
  unfold results
  congr 1
def RV (n : Nat) (P : Program) (w0 : World) (O : List Ent) (E : Env) (r : ResultVar) (u : Value) : Prop :=
  ∀ (a : Act) (w : World), Models n E a → Hp w0 O w → ∃ v, (rdRes a.tmps r).run P w = .ok v w ∧ cn1 v = u
theorem rv_tmp {t : Tmp} {u : Value} (hu : E.get t = some u) (hn : ∀ z, u ≠ .tuple z) : RV n P w0 O E (.tmp t) u := by
  intro a w ha hw
  obtain ⟨v, h1, h2⟩ := ha.get t u hu
  exact ⟨v, by simp [rdRes, h1], cn_of_ne h2 hn⟩
theorem rv_cellS {c : Tmp} {t : TypeId} {a : Option Addr} {k z : Nat} {us cs : List Value} {fs : Array Field} (hu : E.get c = some (.pointer (some (adr a k)))) (ht : P.underlying t = some (.struct fs)) (hz : (P.info? t).map (·.size) = some z) (hs : Sees w0 O a us)
    (hcs : (us.drop k).take z = cs) (hl : cs.length = z) (hsc : cs.all scal = true) : RV n P w0 O E (.cell c t) (.agg cs.toArray) := by
  intro ac w ha hw
  obtain ⟨v, h1, h2⟩ := ha.get c _ hu
  have e1 := cn_pointer h2
  obtain ⟨vs, g1, g2, g3⟩ := (hs w hw).cellsN cs k (fun j u hj => by
    subst hcs
    have hj' : j < z := by
      have := (List.getElem?_eq_some_iff.1 hj).1
      simp at this; omega
    rw [List.getElem?_take, if_pos hj', List.getElem?_drop] at hj
    exact hj)
  obtain ⟨h4, h5⟩ := map_cn0_of g3 hsc
  have hload := run_loadCells_adr (P := P) (w := w) (a := a) (k := k) vs g2
  rw [g1, hl] at hload
  refine ⟨.agg vs.toArray, ?_, by simp [cn1, h4]⟩
  simp [rdRes, h1, e1, asAddr, loadVar, aggB ht, info_size hz, hload]
inductive RVs (n : Nat) (P : Program) (w0 : World) (O : List Ent) (E : Env) : List ResultVar → List Value → Prop
  | nil : RVs n P w0 O E [] []
  | cons {r : ResultVar} {u : Value} {rs : List ResultVar} {us : List Value} : RV n P w0 O E r u → RVs n P w0 O E rs us → RVs n P w0 O E (r :: rs) (u :: us)
theorem RVs.run {rs : List ResultVar} {us : List Value} (h : RVs n P w0 O E rs us) {a : Act} {w : World} (ha : Models n E a) (hw : Hp w0 O w) :
    ∃ vs : List Value, (rs.mapM (m := Sem) (rdRes a.tmps)).run P w = .ok vs w ∧ vs.map cn1 = us := by
  induction h with
  | nil => exact ⟨[], rfl, rfl⟩
  | cons hr _ ih =>
    obtain ⟨v, h1, h2⟩ := hr a w ha hw
    obtain ⟨vs, h3, h4⟩ := ih
    exact ⟨v :: vs, by simp only [List.mapM_cons, Sem.run_bind, h1, Result.andThen_ok, h3, Sem.run_pure], by simp [h2, h4]⟩
theorem run_results {fn : Func} {rs : List ResultVar} {us : List Value} (hr : fn.results = rs.toArray) (h : RVs n P w0 O E rs us) {a : Act} {w : World} (ha : Models n E a) (hw : Hp w0 O w) :
    ∃ vs : List Value, (results fn a.tmps).run P w = .ok (if h : vs.toArray.size = 1 then vs.toArray[0] else .tuple vs.toArray) w ∧ vs.map cn1 = us := by
  obtain ⟨vs, h1, h2⟩ := h.run ha hw
  refine ⟨vs, ?_, h2⟩
  rw [results_rd, hr, Array.mapM_eq_mapM_toList, Sem.run_bind, Sem.run_map]
  rw [h1]
  rfl
theorem retC {fn : Func} {R : Value → World → Prop} {r : ResultVar} {u : Value} (hr : fn.results = #[r]) (h : RV n P w0 O E r u) (hn : ∀ z, u ≠ .tuple z) (hk : ∀ w, Hp w0 O w → R u w) : VE n w0 O E (Ends P fn R) .ret := by
  intro a w ha hw
  obtain ⟨vs, h1, h2⟩ := run_results (rs := [r]) hr (.cons h .nil) ha hw
  match vs, h2 with
  | [v], h2 =>
    simp only [List.map_cons, List.map_nil, List.cons.injEq, and_true] at h2
    refine bodyPost_ret h1 ha.defers ⟨v, rfl, ?_⟩
    have : cn v = u := by
      rw [← h2] at hn ⊢
      cases v <;> first | rfl | exact absurd rfl (hn _)
    rw [this]; exact hk w hw
theorem retN {fn : Func} {R : Value → World → Prop} {rs : List ResultVar} {us : List Value} (hr : fn.results = rs.toArray) (h : RVs n P w0 O E rs us) (h2 : us.length ≠ 1) (hk : ∀ w, Hp w0 O w → R (.tuple us.toArray) w) : VE n w0 O E (Ends P fn R) .ret := by
  intro a w ha hw
  obtain ⟨vs, h1, h3⟩ := run_results hr h ha hw
  have hl : ¬ vs.toArray.size = 1 := by rw [← h3] at h2; simpa using h2
  rw [dif_neg hl] at h1
  refine bodyPost_ret h1 ha.defers ⟨_, rfl, ?_⟩
  have := hk w hw
  rw [← h3] at this
  simpa [cn] using this
end
end Go.Proofs.Ytfeciemlhiclbaa


namespace Go.Proofs.Ytfeciemlhiclbaa

/-! ### the side of a square -/
def isSide (m n : Nat) : Bool := decide (1 ≤ n) && decide (n * n = m)
def side (m : Nat) : Nat := ((List.range 9).find? (isSide m)).getD 0
/-! ### forward and backward -/
end Go.Proofs.Ytfeciemlhiclbaa


namespace Go.Proofs.Ytfeciemlhiclbaa
open Go.RowKit

/-! ### the first index of which something holds -/
def idxI (p : Nat → Bool) : Nat → Int
  | 0 => -1
  | n + 1 => if 0 ≤ idxI p n then idxI p n else if p n then n else -1
theorem idxI_no {p : Nat → Bool} : ∀ {n : Nat}, (∀ j, j < n → p j = false) → idxI p n = -1
  | 0, _ => rfl
  | n + 1, h => by
    have := idxI_no (n := n) (fun j hj => h j (by omega))
    simp [idxI, this, h n (by omega)]
theorem idxI_of {p : Nat → Bool} {k : Nat} (h : ∀ j, j < k → p j = false) (hk : p k = true) : ∀ {n : Nat}, k < n → idxI p n = k
  | 0, h => by omega
  | n + 1, hn => by
    by_cases e : k = n
    · subst e
      simp [idxI, idxI_no h, hk]
    · have := idxI_of h hk (n := n) (by omega)
      simp [idxI, this]
theorem idxI_any (p : Nat → Bool) : ∀ (n : Nat), decide (0 ≤ idxI p n) = (List.range n).any p
  | 0 => rfl
  | n + 1 => by
    have ih := idxI_any p n
    rw [List.range_succ, List.any_append, ← ih]
    simp only [idxI]
    by_cases h : 0 ≤ idxI p n
    · simp [h]
    · rcases Bool.eq_false_or_eq_true (p n) with hp | hp
      · simp [h, hp]
      · simp [h, hp]
theorem any_list (p : Nat → Bool) (xs : List Nat) : (List.range xs.length).any (fun k => p (xs.getD k 0)) = xs.any p := by
  rw [Bool.eq_iff_iff, List.any_eq_true, List.any_eq_true]
  constructor
  · rintro ⟨k, hk, h⟩
    simp only [List.mem_range] at hk
    exact ⟨_, getD_mem hk, h⟩
  · rintro ⟨x, hx, h⟩
    obtain ⟨k, hk, rfl⟩ := List.getElem_of_mem hx
    exact ⟨k, by simpa using hk, by simpa [List.getD, hk] using h⟩
theorem all_list (p : Nat → Bool) (xs : List Nat) : (!decide (0 ≤ idxI (fun k => !p (xs.getD k 0)) xs.length)) = xs.all p := by
  rw [idxI_any, any_list (fun x => !p x)]
  induction xs with
  | nil => rfl
  | cons x xs ih => simp only [List.any_cons, List.all_cons, Bool.not_or, Bool.not_not, ih]
/-! ### what is valid -/
section
variable {P : Program} {n : Nat} {w0 : World} {O : List Ent} {E : Env} {o : Oper}
end
end Go.Proofs.Ytfeciemlhiclbaa


namespace Go.Proofs.Ytfeciemlhiclbaa
open Go.RowKit

end Go.Proofs.Ytfeciemlhiclbaa


namespace Go.Proofs.Ytfeciemlhiclbaa
open Go.RowKit

theorem units_pos (f : Ieee.Format) {r : Nat} (h : r ≠ 0) : units f r ≠ 0 := fun e => h ((units_zero f).1 e)
/-- A number that the format has is written as its word. -/
theorem nearest_units (f : Ieee.Format) (s : Bool) {m r a b : Nat} {e : Int} (hr : r ≤ f.infRung) (he : e + a = f.leastPlace + b) (h : m * 2 ^ b = units f r * 2 ^ a) : f.nearest s m e = f.word s r := by
  unfold Ieee.Format.nearest
  have hpa := pow_pos' a
  have hpb := pow_pos' b
  by_cases hr0 : r = 0
  · subst hr0
    have hu : units f 0 = 0 := (units_zero f).2 rfl
    rw [hu, Nat.zero_mul] at h
    have hm : m = 0 := by
      rcases Nat.mul_eq_zero.1 h with h | h
      · exact h
      · omega
    rw [if_pos hm]
  · have hu := units_pos f hr0
    have hm : m ≠ 0 := by
      rintro rfl
      rw [Nat.zero_mul] at h
      rcases Nat.mul_eq_zero.1 h.symm with h | h
      · exact hu h
      · omega
    rw [if_neg hm]
    have hl : m.log2 + b = (units f r).log2 + a := by rw [← log2_mul_pow hm b, ← log2_mul_pow hu a, h]
    have hb : 0 < f.binade := pow_pos' _
    -- the kept digits, for any last place at which the number is whole
    have key : ∀ (q t : Nat), q ≠ 0 → units f r = q * 2 ^ t → Ieee.Toward.even.cut s (m <<< (e - (f.leastPlace + t)).toNat) ((f.leastPlace + t) - e).toNat = q := by
      intro q t hq hqt
      rw [hqt, Nat.mul_assoc, ← Nat.pow_add] at h
      rcases Nat.le_total (t + a) b with hle | hle
      · have e1 : (e - (f.leastPlace + t)).toNat = b - (t + a) := by omega
        have e2 : ((f.leastPlace + t) - e).toNat = 0 := by omega
        rw [e1, e2, cut_zero, shl_eq]
        have : b = (b - (t + a)) + (t + a) := by omega
        rw [this, Nat.pow_add, ← Nat.mul_assoc] at h
        exact Nat.eq_of_mul_eq_mul_right (pow_pos' _) h
      · have e1 : (e - (f.leastPlace + t)).toNat = 0 := by omega
        have e2 : ((f.leastPlace + t) - e).toNat = t + a - b := by omega
        have : t + a = (t + a - b) + b := by omega
        rw [this, Nat.pow_add, ← Nat.mul_assoc] at h
        have hm' := Nat.eq_of_mul_eq_mul_right hpb h
        rw [e1, e2, shl_eq, Nat.pow_zero, Nat.mul_one, hm']
        exact cut_exact s q _ hq
    by_cases hrb : r < f.binade
    · have hur : units f r = r := by unfold units; rw [if_pos hrb]
      have hlg : (units f r).log2 < f.fractionBits := by
        rw [hur]
        exact (Nat.log2_lt hr0).2 hrb
      have hlast : max (e + (m.log2 : Int) - (f.fractionBits : Int)) f.leastPlace = f.leastPlace + ((0 : Nat) : Int) := by omega
      simp only [hlast]
      have := key r 0 hr0 (by rw [hur]; simp)
      rw [this]
      simp
      rw [Nat.min_eq_left hr]
    · have hq1 : 1 ≤ r / f.binade := (Nat.le_div_iff_mul_le hb).2 (by omega)
      have hmod := Nat.mod_lt r hb
      have hur : units f r = (f.binade + r % f.binade) * 2 ^ (r / f.binade - 1) := by unfold units; rw [if_neg hrb]
      have hqne : f.binade + r % f.binade ≠ 0 := by omega
      have hlg : (units f r).log2 = f.fractionBits + (r / f.binade - 1) := by
        rw [hur, log2_mul_pow hqne]
        congr 1
        rw [Nat.log2_eq_iff hqne]
        have hbe : f.binade = 2 ^ f.fractionBits := rfl
        rw [Nat.pow_succ, ← hbe]
        omega
      have hlast : max (e + (m.log2 : Int) - (f.fractionBits : Int)) f.leastPlace = f.leastPlace + ((r / f.binade - 1 : Nat) : Int) := by omega
      simp only [hlast]
      rw [key _ _ hqne hur]
      congr 1
      have e1 : (f.leastPlace + ((r / f.binade - 1 : Nat) : Int) - f.leastPlace).toNat = r / f.binade - 1 := by omega
      rw [e1]
      have e2 := Nat.div_add_mod r f.binade
      have e3 : (r / f.binade - 1) * f.binade + (f.binade + r % f.binade) = r := by
        have : r / f.binade = (r / f.binade - 1) + 1 := by omega
        rw [this, Nat.mul_add, Nat.mul_one] at e2
        rw [Nat.mul_comm]
        omega
      rw [e3, Nat.min_eq_left hr]

/-- The absolute value: without the sign. -/
def fabs (k : FloatKind) (x : Nat) : Nat := if fnan k x then qn k else x % k.format.signWeight
theorem rng_abs (f : Ieee.Format) (x : Nat) : rng f (x % f.signWeight) = rng f x := Nat.mod_mod _ _
theorem fnan_rng (k : FloatKind) (x : Nat) : fnan k x = decide (k.format.infRung < rng k.format x) := by
  cases h : fnan k x
  · have := rng_le h
    symm; exact decide_eq_false (by omega)
  · symm
    apply decide_eq_true
    apply Classical.byContradiction
    intro hn
    rcases Nat.lt_or_ge (rng k.format x) k.format.infRung with h1 | h1
    · obtain ⟨m, e, h2, _⟩ := read_number k.format h1
      unfold fnan FloatKind.decode at h
      rw [h2] at h
      cases h
    · have h2 := read_inf k (x := x) (by omega)
      unfold fnan FloatKind.decode at h
      rw [h2] at h
      cases h
theorem fnan_abs (k : FloatKind) (x : Nat) : fnan k (x % k.format.signWeight) = fnan k x := by rw [fnan_rng, fnan_rng, rng_abs]
theorem rng_word (k : FloatKind) (s : Bool) {r : Nat} (h : r ≤ k.format.infRung) : rng k.format (k.format.word s r) = r ∧ sgn k.format (k.format.word s r) = s := by
  have hlt : r < k.format.signWeight := Nat.lt_of_le_of_lt h (by cases k <;> decide)
  have hp : 0 < k.format.signWeight := pow_pos' _
  unfold rng sgn Ieee.Format.word
  cases s
  · simp only [Bool.false_eq_true, if_false]
    rw [Nat.mod_eq_of_lt hlt, Nat.div_eq_of_lt hlt]
    exact ⟨rfl, rfl⟩
  · simp only [if_true]
    rw [Nat.add_mod_left, Nat.mod_eq_of_lt hlt, Nat.add_div_left _ hp, Nat.div_eq_of_lt hlt]
    exact ⟨rfl, rfl⟩

theorem cb_abs64 (b : Nat) : cb .f64 (b % 9223372036854775808) = fabs .f64 (cb .f64 b) := by
  have e : ∀ x, fnan .f64 (x % 9223372036854775808) = fnan .f64 x := fnan_abs .f64
  unfold fabs
  rw [fnan_cb]
  cases hn : fnan .f64 b
  · rw [cb_num (by rw [e, hn]), cb_num hn]; rfl
  · rw [cb_of_nan (by rw [e, hn])]; rfl
end Go.Proofs.Ytfeciemlhiclbaa


namespace Go.Proofs.Ytfeciemlhiclbaa
open Go.RowKit
namespace Dr

/-- What an operation makes whatever is there: by its place in the region. -/
abbrev Tab := List (Nat × ((Nat → Value) × (Nat → Ent)))
def Tab.get : Tab → Nat → (Nat → Value) × (Nat → Ent)
  | [], _ => (fun _ => undef, fun _ => ⟨none, [], 0, 0⟩)
  | (j, p) :: l, i => match Nat.beq j i with | true => p | false => Tab.get l i

section
variable {P : Program} {n : Nat} {w0 : World} {O R : List Ent} {T : Tab} {E : Env} {ops : Array Oper}

/-- Something new is made, whatever is there. -/
def YA (P : Program) (E : Env) (o : Oper) (u : Nat → Value) (e : Nat → Ent) : Prop :=
  ∀ ρ w, Ev E o.op ρ → ResOk P (fun v w' => ∃ b, cn v = u b ∧ Below w.heap.size w w' ∧ Ent.at w.heap.size w' (e b)) ((execOp ρ o).run P w)
theorem YA.of {o : Oper} {u : Nat → Value} {e : Nat → Ent} (h : ∀ w0, YN P w0 [] E o u (fun b => [e b])) : YA P E o u e := by
  intro ρ w hE
  refine (h w ρ w hE (Hp.refl w)).mono fun v w' ⟨b, h1, h2, h3, _⟩ => ⟨b, h1, h2, h3 _ List.mem_cons_self⟩
theorem YA.weaken {E' : Env} {o : Oper} {u : Nat → Value} {e : Nat → Ent} (h : YA P E o u e) (hE : ∀ x ∈ o.op.operands, E'.opd x = E.opd x) : YA P E' o u e :=
  fun ρ w hρ => h ρ w (fun x hx u hu => hρ x hx u (by rw [hE x hx]; exact hu))

/-- What an operation does: a value and what is owned then, for some x. -/
inductive Eff (P : Program) (w0 : World) (ops : Array Oper) (R : List Ent) : Kd → Oper → Env → List Ent → (X : Type) → (X → Value) → (X → List Ent) → Prop
  | skip {k : Kd} {o : Oper} {E : Env} {O : List Ent} : Guard ops E o false → Eff P w0 ops R k o E O Unit (fun _ => undef) (fun _ => O)
  | quiet {o : Oper} {E : Env} {O : List Ent} {u : Value} : Guard ops E o true → YQ P w0 (O ++ R) E o u → Eff P w0 ops R 0 o E O Unit (fun _ => u) (fun _ => O)
  | quietR {o : Oper} {E : Env} {O : List Ent} {u : Value} : Guard ops E o true → YQ P w0 R E o u → Eff P w0 ops R 5 o E O Unit (fun _ => u) (fun _ => O)
  | make {o : Oper} {E : Env} {O : List Ent} {X : Type} {u : X → Value} {N : X → List Ent} : Guard ops E o true → YN P w0 (O ++ R) E o u N → Eff P w0 ops R 1 o E O X u (fun x => N x ++ O)
  | turn {o : Oper} {E : Env} {O : List Ent} {X : Type} {u : X → Value} {O' : X → List Ent} : Guard ops E o true → YC P w0 (O ++ R) E o u (fun x => O' x ++ R) → Eff P w0 ops R 3 o E O X u O'

/-- One operation, and K behind it. -/
def Stp (P : Program) (n : Nat) (w0 : World) (ops : Array Oper) (T : Tab) (k : Kd) (i : Nat) (o : Oper) (E : Env) (O R : List Ent) (K : Env → List Ent → List Ent → Prop) : Prop :=
  if k = 2 then o.guard = none ∧ DOk n o ∧ YA P E o (T.get i).1 (T.get i).2 ∧ ∀ b, K (putE E o.dst ((T.get i).1 b)) ((T.get i).2 b :: O) R
  else if k = 4 then ∃ (X : Type) (u : X → Value) (O' : X → List Ent), Nonempty X ∧ Guard ops E o true ∧ YC P w0 (O ++ R) E o u O' ∧ DOk n o ∧ ∀ x, K (putE E o.dst (u x)) (O' x) []
  else ∃ (X : Type) (u : X → Value) (O' : X → List Ent), Nonempty X ∧ Eff P w0 ops R k o E O X u O' ∧ DOk n o ∧ ∀ x, K (putE E o.dst (u x)) (O' x) R

/-- The walk: the operations of π in this order. -/
def SW (P : Program) (n : Nat) (w0 : World) (ops : Array Oper) (T : Tab) (K : Env → List Ent → List Ent → Prop) : List (Nat × Kd) → Env → List Ent → List Ent → Prop
  | [], E, O, R => K E O R
  | (i, k) :: π, E, O, R => ∃ o, ops[i]? = some o ∧ Stp P n w0 ops T k i o E O R (SW P n w0 ops T K π)

/-- K does not look at the order of what is known. -/
def Lax3 (w0 : World) (K : Env → List Ent → List Ent → Prop) : Prop :=
  ∀ E E' O O' R, (∀ t, E'.get t = E.get t) → (∀ F w, Hp w0 (F ++ O') w → Hp w0 (F ++ O) w) → K E O R → K E' O' R

theorem frame {O' : List Ent} (h : ∀ F w, Hp w0 (F ++ O') w → Hp w0 (F ++ O) w) : ∀ F w, Hp w0 (F ++ (O' ++ R)) w → Hp w0 (F ++ (O ++ R)) w := by
  intro F w hw
  have h1 : (F ++ (O' ++ R)).Perm ((F ++ R) ++ O') := by
    rw [List.append_assoc]
    exact List.Perm.append_left F List.perm_append_comm
  have h2 : ((F ++ R) ++ O).Perm (F ++ (O ++ R)) := by
    rw [List.append_assoc]
    exact List.Perm.append_left F List.perm_append_comm
  exact (h (F ++ R) w (hw.perm' h1)).perm' h2

/-- The effect, seen from what says the same. -/
theorem Eff.lax {E' : Env} {O' : List Ent} {k : Kd} {o : Oper} {X : Type} {u : X → Value} {S : X → List Ent} (hE : ∀ t, E'.get t = E.get t) (hO : ∀ F w, Hp w0 (F ++ O') w → Hp w0 (F ++ O) w) (h : Eff P w0 ops R k o E O X u S) :
    ∃ S', Eff P w0 ops R k o E' O' X u S' ∧ ∀ x F w, Hp w0 (F ++ S' x) w → Hp w0 (F ++ S x) w := by
  have hop := opd_same hE
  cases h with
  | skip hg => exact ⟨_, .skip (hg.same fun t _ => hE t), fun _ => hO⟩
  | quiet hg h => exact ⟨_, .quiet (hg.same fun t _ => hE t) (h.weaken (fun x _ => hop x) (hp_nil (frame hO))), fun _ => hO⟩
  | quietR hg h => exact ⟨_, .quietR (hg.same fun t _ => hE t) (h.weaken (fun x _ => hop x) (fun _ h => h)), fun _ => hO⟩
  | make hg h => exact ⟨_, .make (hg.same fun t _ => hE t) (h.weaken (fun x _ => hop x) (hp_nil (frame hO))), fun x => Hp.perm hO⟩
  | turn hg h => exact ⟨_, .turn (hg.same fun t _ => hE t) (fun ρ w F hρ hw => h ρ w F (fun x hx u hu => hρ x hx u (by rw [hop x]; exact hu)) (frame hO F w hw)), fun _ _ _ h => h⟩

theorem Stp.lax {k : Kd} {i : Nat} {o : Oper} {K : Env → List Ent → List Ent → Prop} (hK : Lax3 w0 K) : Lax3 w0 (fun E O R => Stp P n w0 ops T k i o E O R K) := by
  intro E E' O O' R hE hO h
  simp only [Stp] at h ⊢
  split at h
  · rename_i hk
    rw [if_pos hk]
    exact ⟨h.1, h.2.1, h.2.2.1.weaken (fun x _ => opd_same hE x), fun b => hK _ _ _ _ _ (put_congr hE _ _) (fun F w => by simpa using Hp.perm (N := [(T.get i).2 b]) hO F w) (h.2.2.2 b)⟩
  · rename_i hk
    rw [if_neg hk]
    split at h
    · rename_i hk4
      rw [if_pos hk4]
      obtain ⟨X, u, S, h0, hg, h1, h2, h3⟩ := h
      exact ⟨X, u, S, h0, hg.same fun t _ => hE t, fun ρ w F hρ hw => h1 ρ w F (fun x hx u hu => hρ x hx u (by rw [opd_same hE x]; exact hu)) (frame hO F w hw), h2, fun x => hK _ _ _ _ _ (put_congr hE _ _) (fun _ _ h => h) (h3 x)⟩
    · rename_i hk4
      rw [if_neg hk4]
      obtain ⟨X, u, S, h0, h1, h2, h3⟩ := h
      obtain ⟨S', h4, h5⟩ := h1.lax hE hO
      exact ⟨X, u, S', h0, h4, h2, fun x => hK _ _ _ _ _ (put_congr hE _ _) (h5 x) (h3 x)⟩

theorem SW.lax {K : Env → List Ent → List Ent → Prop} (hK : Lax3 w0 K) : ∀ π, Lax3 w0 (SW P n w0 ops T K π)
  | [] => hK
  | (i, k) :: π => by
    intro E E' O O' R hE hO ⟨o, ho, h⟩
    exact ⟨o, ho, Stp.lax (SW.lax hK π) _ _ _ _ _ hE hO h⟩

/-- p is walked before q; may q be carried out before p? -/
def swapOk (ops : Array Oper) (kp kq : Kd) (p q : Oper) : Bool :=
  (match p.dst with | some d => !(q.looksAt ops).contains d && q.dst != some d | none => true) &&
  (match q.dst with | some d => !(p.looksAt ops).contains d | none => true) &&
  ((kp == 0 && (kq == 0 || kq == 1 || kq == 5)) || (kp == 5 && (kq == 0 || kq == 1 || kq == 3 || kq == 5)) || (kq == 2 && kp != 4))

theorem Eff.put {k : Kd} {o : Oper} {d : Option Nat} {u : Value} {X : Type} {v : X → Value} {S : X → List Ent} (h : ∀ x, d = some x → (o.looksAt ops).contains x = false) :
    Eff P w0 ops R k o (putE E d u) O X v S ↔ Eff P w0 ops R k o E O X v S := by
  constructor
  · intro he
    cases he with
    | skip hg => exact .skip ((guard_put h).1 hg)
    | quiet hg hy => exact .quiet ((guard_put h).1 hg) (hy.weaken (fun x hx => (opd_put h u x hx).symm) fun _ h => h)
    | quietR hg hy => exact .quietR ((guard_put h).1 hg) (hy.weaken (fun x hx => (opd_put h u x hx).symm) fun _ h => h)
    | make hg hy => exact .make ((guard_put h).1 hg) (hy.weaken (fun x hx => (opd_put h u x hx).symm) fun _ h => h)
    | turn hg hy => exact .turn ((guard_put h).1 hg) (fun ρ w F hρ hw => hy ρ w F (fun x hx v hv => hρ x hx v (by rw [← opd_put h u x hx]; exact hv)) hw)
  · intro he
    cases he with
    | skip hg => exact .skip ((guard_put h).2 hg)
    | quiet hg hy => exact .quiet ((guard_put h).2 hg) (hy.weaken (fun x hx => opd_put h u x hx) fun _ h => h)
    | quietR hg hy => exact .quietR ((guard_put h).2 hg) (hy.weaken (fun x hx => opd_put h u x hx) fun _ h => h)
    | make hg hy => exact .make ((guard_put h).2 hg) (hy.weaken (fun x hx => opd_put h u x hx) fun _ h => h)
    | turn hg hy => exact .turn ((guard_put h).2 hg) (fun ρ w F hρ hw => hy ρ w F (fun x hx v hv => hρ x hx v (by rw [opd_put h u x hx]; exact hv)) hw)

/-- .. with one entry more -/
theorem Eff.beside {k : Kd} {o : Oper} {e : Ent} {X : Type} {v : X → Value} {S : X → List Ent} (he : Eff P w0 ops R k o E O X v S) :
    ∃ S', Eff P w0 ops R k o E (e :: O) X v S' ∧ ∀ x F w, Hp w0 (F ++ S' x) w → Hp w0 (F ++ (e :: S x)) w := by
  have hsub : ∀ w, Hp w0 (e :: O ++ R) w → Hp w0 (O ++ R) w := fun w h => h.sub (List.sublist_cons_self e (O ++ R))
  cases he with
  | skip hg => exact ⟨_, .skip hg, fun _ _ _ h => h⟩
  | quiet hg hy => exact ⟨_, .quiet hg (hy.weaken (fun _ _ => rfl) hsub), fun _ _ _ h => h⟩
  | quietR hg hy => exact ⟨_, .quietR hg hy, fun _ _ _ h => h⟩
  | make hg hy =>
    exact ⟨_, .make hg (hy.weaken (fun _ _ => rfl) hsub), fun x F w h => swap_hp (N := _) (M := [e]) F w h⟩
  | turn hg hy =>
    refine ⟨fun x => e :: S x, .turn hg fun ρ w F hρ hw => ?_, fun _ _ _ h => h⟩
    have := hy ρ w (F ++ [e]) hρ (by simpa using hw)
    refine this.mono fun v w' ⟨x, h1, h2⟩ => ⟨x, h1, by simpa using h2⟩

theorem Stp.swap {kp kq : Kd} {ip iq : Nat} {p q : Oper} {K : Env → List Ent → List Ent → Prop} (hK : Lax3 w0 K) (hs : swapOk ops kp kq p q = true)
    (h : Stp P n w0 ops T kp ip p E O R (fun E O R => Stp P n w0 ops T kq iq q E O R K)) : Stp P n w0 ops T kq iq q E O R (fun E O R => Stp P n w0 ops T kp ip p E O R K) := by
  simp only [swapOk, Bool.and_eq_true, Bool.or_eq_true, beq_iff_eq, bne_iff_ne, ne_eq] at hs
  obtain ⟨⟨hs1, hs2⟩, hs3⟩ := hs
  have d1 : ∀ d, p.dst = some d → (q.looksAt ops).contains d = false := fun d hd => by rw [hd] at hs1; simpa using (Bool.and_eq_true_iff.1 hs1).1
  have d2 : ∀ d, p.dst = some d → q.dst ≠ some d := fun d hd => by rw [hd] at hs1; simpa using (Bool.and_eq_true_iff.1 hs1).2
  have d3 : ∀ d, q.dst = some d → (p.looksAt ops).contains d = false := fun d hd => by rw [hd] at hs2; simpa using hs2
  have hid : ∀ (O : List Ent) (F : List Ent) (w : World), Hp w0 (F ++ O) w → Hp w0 (F ++ O) w := fun _ _ _ h => h
  have hp4 : ¬ kp = 4 := by
    rcases hs3 with (⟨h1, _⟩ | ⟨h1, _⟩) | ⟨_, h2⟩
    · rw [h1]; decide
    · rw [h1]; decide
    · exact h2
  by_cases hq : kq = 2
  · subst hq
    simp only [Stp, if_true, if_neg hp4] at h ⊢
    split at h
    · rename_i hp
      have h0 := (h.2.2.2 0)
      refine ⟨h0.1, h0.2.1, h0.2.2.1.weaken (fun x hx => (opd_put d1 _ x hx).symm), fun b => ?_⟩
      rw [if_pos hp]
      refine ⟨h.1, h.2.1, h.2.2.1.weaken (fun x hx => opd_put d3 _ x hx), fun c => ?_⟩
      have h3 := (h.2.2.2 c).2.2.2 b
      refine hK _ _ _ _ _ (fun t => (put_swap d2 _ _ E t).symm) (fun F w hw => ?_) h3
      have := swap_hp (N := [(T.get ip).2 c]) (M := [(T.get iq).2 b]) (O := O) F w (by simpa using hw)
      simpa using this
    · rename_i hp
      obtain ⟨X, u, S, ⟨x0⟩, h1, h2, h3⟩ := h
      have h0 := h3 x0
      refine ⟨h0.1, h0.2.1, h0.2.2.1.weaken (fun x hx => (opd_put d1 _ x hx).symm), fun b => ?_⟩
      rw [if_neg hp]
      obtain ⟨S', h4, h5⟩ := h1.beside (e := (T.get iq).2 b)
      refine ⟨X, u, S', ⟨x0⟩, (Eff.put d3).2 h4, h2, fun x => ?_⟩
      exact hK _ _ _ _ _ (fun t => (put_swap d2 _ _ E t).symm) (h5 x) ((h3 x).2.2.2 b)
  · have h0 : (kp = 0 ∧ (kq = 0 ∨ kq = 1 ∨ kq = 5)) ∨ (kp = 5 ∧ (kq = 0 ∨ kq = 1 ∨ kq = 3 ∨ kq = 5)) := by
      rcases hs3 with (⟨h1, (h2 | h2) | h2⟩ | ⟨h1, ((h2 | h2) | h2) | h2⟩) | h2
      · exact .inl ⟨h1, .inl h2⟩
      · exact .inl ⟨h1, .inr (.inl h2)⟩
      · exact .inl ⟨h1, .inr (.inr h2)⟩
      · exact .inr ⟨h1, .inl h2⟩
      · exact .inr ⟨h1, .inr (.inl h2)⟩
      · exact .inr ⟨h1, .inr (.inr (.inl h2))⟩
      · exact .inr ⟨h1, .inr (.inr (.inr h2))⟩
      · exact absurd h2.1 hq
    have hp2 : ¬ kp = 2 := by rcases h0 with ⟨h, _⟩ | ⟨h, _⟩ <;> rw [h] <;> decide
    have hq4 : ¬ kq = 4 := by rcases h0 with ⟨_, h | h | h⟩ | ⟨_, h | h | h | h⟩ <;> rw [h] <;> decide
    simp only [Stp, if_neg hq, if_neg hp2, if_neg hp4, if_neg hq4] at h ⊢
    obtain ⟨X, u, S0, hX, h1, h2, h3⟩ := h
    -- the first is quiet, or does not come to its turn
    obtain ⟨u0, hu0, hp⟩ : ∃ u0, (∃ Y v S, Nonempty Y ∧ Eff P w0 ops R kq q (putE E p.dst u0) O Y v S ∧ DOk n q ∧ ∀ y, K (putE (putE E p.dst u0) q.dst (v y)) (S y) R) ∧
        ∀ E' O', (∀ x ∈ p.op.operands, E'.opd x = E.opd x) → (∀ g, Guard ops E p g → Guard ops E' p g) → (kp = 0 → ∀ w, Hp w0 (O' ++ R) w → Hp w0 (O ++ R) w) → Eff P w0 ops R kp p E' O' Unit (fun _ => u0) (fun _ => O') := by
      rcases h0 with ⟨rfl, _⟩ | ⟨rfl, _⟩
      · cases h1 with
        | skip hg => exact ⟨undef, h3 (), fun E' O' _ hg' _ => .skip (hg' _ hg)⟩
        | quiet hg hy => exact ⟨_, h3 (), fun E' O' hE hg' hO => .quiet (hg' _ hg) (hy.weaken hE (hO rfl))⟩
      · cases h1 with
        | skip hg => exact ⟨undef, h3 (), fun E' O' _ hg' _ => .skip (hg' _ hg)⟩
        | quietR hg hy => exact ⟨_, h3 (), fun E' O' hE hg' _ => .quietR (hg' _ hg) (hy.weaken hE fun _ h => h)⟩
    obtain ⟨Y, v, S, g0, g1, g2, g3⟩ := hu0
    have g1' := (Eff.put d1).1 g1
    refine ⟨Y, v, S, g0, g1', g2, fun y => ?_⟩
    have hsub : kp = 0 → ∀ w, Hp w0 (S y ++ R) w → Hp w0 (O ++ R) w := fun hk0 => by
      have hk : kq = 0 ∨ kq = 1 ∨ kq = 5 := by
        rcases h0 with ⟨_, h⟩ | ⟨h, _⟩
        · exact h
        · rw [hk0] at h; exact absurd h (by decide)
      cases g1' with
      | skip _ => exact fun _ h => h
      | quiet _ _ => exact fun _ h => h
      | quietR _ _ => exact fun _ h => h
      | make _ _ => exact fun w h => h.sub (by rw [List.append_assoc]; exact List.sublist_append_right _ _)
      | turn _ _ => rcases hk with h | h | h <;> exact absurd h (by decide)
    exact ⟨Unit, fun _ => u0, fun _ => S y, ⟨()⟩, hp _ _ (opd_put d3 _) (fun g hg => (guard_put d3).2 hg) hsub, h2, fun _ => hK _ _ _ _ _ (fun t => (put_swap d2 _ _ E t).symm) (hid _) (g3 y)⟩

/-! ### the order that is drawn -/
/-- Of any two that are walked in this order the second waits for the first, directly, or they may change places. -/
def pairsOk (ops : Array Oper) : List (Nat × Kd) → Bool
  | [] => true
  | (i, k) :: π => (π.all fun (j, kj) => match ops[i]?, ops[j]? with
    | some p, some q => Go.Proofs.Ytfeciemlhiclbaa.pairsOk.reach ops j i || swapOk ops k kj p q
    | _, _ => false) && pairsOk ops π

theorem pairsOk_mid {i : Nat} {k : Kd} : ∀ (A B : List (Nat × Kd)), pairsOk ops (A ++ (i, k) :: B) = true →
    (∀ j kj, (j, kj) ∈ A → ∃ p q, ops[j]? = some p ∧ ops[i]? = some q ∧ (Go.Proofs.Ytfeciemlhiclbaa.pairsOk.reach ops i j = true ∨ swapOk ops kj k p q = true)) ∧ pairsOk ops (A ++ B) = true
  | [], B, h => by
    simp only [List.nil_append, pairsOk, Bool.and_eq_true] at h
    exact ⟨fun _ _ h => by (cases h), h.2⟩
  | (j, kj) :: A, B, h => by
    simp only [List.cons_append, pairsOk, Bool.and_eq_true, List.all_eq_true] at h ⊢
    obtain ⟨h1, h2⟩ := h
    obtain ⟨g1, g2⟩ := pairsOk_mid A B h2
    refine ⟨fun j' kj' hj => ?_, fun x hx => h1 x ?_, g2⟩
    · rcases List.mem_cons.1 hj with hj | hj
      · cases hj
        have := h1 (i, k) (by simp)
        dsimp only at this
        cases hp : ops[j]? with
        | none => rw [hp] at this; simp at this
        | some p =>
          cases hq : ops[i]? with
          | none => rw [hp, hq] at this; simp at this
          | some q =>
            rw [hp, hq] at this
            exact ⟨p, q, rfl, rfl, by simpa using this⟩
      · exact g1 j' kj' hj
    · rcases List.mem_append.1 hx with hx | hx
      · exact List.mem_append.2 (.inl hx)
      · exact List.mem_append.2 (.inr (List.mem_cons_of_mem _ hx))


theorem SW.front {K : Env → List Ent → List Ent → Prop} (hK : Lax3 w0 K) {i : Nat} {k : Kd} {q : Oper} (hq : ops[i]? = some q) : ∀ (A B : List (Nat × Kd)) (E : Env) (O R : List Ent),
    (∀ j kj, (j, kj) ∈ A → ∃ p, ops[j]? = some p ∧ swapOk ops kj k p q = true) → SW P n w0 ops T K (A ++ (i, k) :: B) E O R → SW P n w0 ops T K ((i, k) :: (A ++ B)) E O R
  | [], _, _, _, _, _, h => h
  | (j, kj) :: A, B, E, O, R, hs, h => by
    obtain ⟨p, hp, h⟩ := h
    obtain ⟨p', hp', hsw⟩ := hs j kj List.mem_cons_self
    obtain rfl : p = p' := Option.some.inj (hp.symm.trans hp')
    have h2 : Stp P n w0 ops T kj j p E O R (fun E O R => Stp P n w0 ops T k i q E O R (SW P n w0 ops T K (A ++ B))) := by
      have ih := fun E O R => SW.front hK hq A B E O R (fun j kj hj => hs j kj (List.mem_cons_of_mem _ hj))
      have key : ∀ E O R, SW P n w0 ops T K (A ++ (i, k) :: B) E O R → Stp P n w0 ops T k i q E O R (SW P n w0 ops T K (A ++ B)) := fun E O R h => by
        obtain ⟨q', hq', h'⟩ := ih E O R h
        obtain rfl : q = q' := Option.some.inj (hq.symm.trans hq')
        exact h'
      simp only [Stp] at h ⊢
      split at h
      · rename_i hk; rw [if_pos hk]; exact ⟨h.1, h.2.1, h.2.2.1, fun b => key _ _ _ (h.2.2.2 b)⟩
      · rename_i hk; rw [if_neg hk]
        split at h
        · rename_i hk4; rw [if_pos hk4]
          obtain ⟨X, u, R, h0, h1, h2, h3, h4⟩ := h
          exact ⟨X, u, R, h0, h1, h2, h3, fun x => key _ _ _ (h4 x)⟩
        · rename_i hk4; rw [if_neg hk4]
          obtain ⟨X, u, R, h0, h1, h2, h3⟩ := h
          exact ⟨X, u, R, h0, h1, h2, fun x => key _ _ _ (h3 x)⟩
    have h3 := Stp.swap (SW.lax hK (A ++ B)) hsw h2
    refine ⟨q, hq, ?_⟩
    simp only [Stp] at h3 ⊢
    split at h3
    · rename_i hk; rw [if_pos hk]; exact ⟨h3.1, h3.2.1, h3.2.2.1, fun b => ⟨p, hp, h3.2.2.2 b⟩⟩
    · rename_i hk; rw [if_neg hk]
      split at h3
      · rename_i hk4; rw [if_pos hk4]
        obtain ⟨X, u, R, h0, h1, h2, h3, h4⟩ := h3
        exact ⟨X, u, R, h0, h1, h2, h3, fun x => ⟨p, hp, h4 x⟩⟩
      · rename_i hk4; rw [if_neg hk4]
        obtain ⟨X, u, R, h0, h1, h2, h4⟩ := h3
        exact ⟨X, u, R, h0, h1, h2, fun x => ⟨p, hp, h4 x⟩⟩

theorem Stp.wpOp {k : Kd} {o : Oper} {i : Nat} {Q : Exit → Act → World → Prop} {K : Env → List Ent → List Ent → Prop} {S : Act → World → Prop} (ho : ops[i]? = some o) (h : Stp P n w0 ops T k i o E O R K) (hR : ∀ E' O' R', K E' O' R' → VX n w0 (O' ++ R') E' S) {a : Act} {w : World} (ha : Models n E a) (hw : Hp w0 (O ++ R) w) : Go.wpOp P ops Q i S a w := by
  unfold Go.wpOp
  simp only [ho]
  simp only [Stp] at h
  split at h
  · obtain ⟨hg, hd, hA, h⟩ := h
    rw [if_pos (by simp [Region.wanted, hg])]
    refine .inl ?_
    unfold Oper.wp
    refine (hA a.eval w (ha.ev _)).upon fun v w' ⟨b, h1, h2, h3⟩ => ?_
    exact hR _ _ _ (h b) _ _ (models_put ha hd h1) (hw.new h2 h3)
  split at h
  · obtain ⟨X, u, R', _, hg, hy, hd, h3⟩ := h
    rw [if_pos (hg.wanted ha)]
    refine .inl ?_
    unfold Oper.wp
    refine (hy a.eval w [] (ha.ev _) (by simpa using hw)).upon fun v w' ⟨x, h1, h2⟩ => ?_
    exact hR _ _ _ (h3 x) _ _ (models_put ha hd h1) (by simpa using h2)
  · obtain ⟨X, u, R', _, h1, hd, h3⟩ := h
    cases h1 with
    | skip hg =>
      rw [if_neg (by rw [hg.wanted ha]; decide)]
      exact hR _ _ _ (h3 ()) _ _ (models_put ha hd (by simp [undef, cn])) hw
    | quiet hg hy =>
      rw [if_pos (hg.wanted ha)]
      refine .inl ?_
      unfold Oper.wp
      refine (hy a.eval w (ha.ev _) hw).upon fun v w' ⟨h1, h2⟩ => ?_
      exact hR _ _ _ (h3 ()) _ _ (models_put ha hd h1) (hw.ext h2)
    | quietR hg hy =>
      rw [if_pos (hg.wanted ha)]
      refine .inl ?_
      unfold Oper.wp
      refine (hy a.eval w (ha.ev _) (hw.sub (List.sublist_append_right _ _))).upon fun v w' ⟨h1, h2⟩ => ?_
      exact hR _ _ _ (h3 ()) _ _ (models_put ha hd h1) (hw.ext h2)
    | make hg hy =>
      rw [if_pos (hg.wanted ha)]
      refine .inl ?_
      unfold Oper.wp
      refine (hy a.eval w (ha.ev _) hw).upon fun v w' ⟨x, h1, h2, h4, h5⟩ => ?_
      exact hR _ _ _ (h3 x) _ _ (models_put ha hd h1) (by rw [List.append_assoc]; exact hw.news h2 h4 h5)
    | turn hg hy =>
      rw [if_pos (hg.wanted ha)]
      refine .inl ?_
      unfold Oper.wp
      refine (hy a.eval w [] (ha.ev _) (by simpa using hw)).upon fun v w' ⟨x, h1, h2⟩ => ?_
      exact hR _ _ _ (h3 x) _ _ (models_put ha hd h1) (by simpa using h2)

theorem any_of_walk {Q : Exit → Act → World → Prop} {K : Env → List Ent → List Ent → Prop} (hK : Lax3 w0 K) (hQ : ∀ E O R, K E O R → VX n w0 (O ++ R) E (Q .normal)) (hback : backOk ops = true) :
    ∀ (fuel : Nat) (π : List (Nat × Kd)) (listed : Array Bool) (E : Env) (O R : List Ent) (a : Act) (w : World), π.length ≤ fuel → listed.size = ops.size → (∀ j, j < ops.size → (listed.getD j true = false ↔ ∃ k, (j, k) ∈ π)) → (π.map (·.1)).Nodup →
      (∀ j o, ops[j]? = some o → listed.getD j false = true → ∀ e ∈ o.after, Region.binds .any e = true → listed.getD e.on false = true) → pairsOk ops π = true → SW P n w0 ops T K π E O R → Models n E a → Hp w0 (O ++ R) w → wpAny P .any ops Q fuel listed a w := by
  have hnone : ∀ (π : List (Nat × Kd)) (listed : Array Bool) (E : Env) (O R : List Ent) (a : Act) (w : World), listed.size = ops.size → (∀ j, j < ops.size → (listed.getD j true = false ↔ ∃ k, (j, k) ∈ π)) → Region.ready .any ops listed = [] → SW P n w0 ops T K π E O R → (∀ j k, (j, k) ∈ π → j < ops.size) → Models n E a → Hp w0 (O ++ R) w → Q .normal a w := by
    intro π listed E O R a w hsz hl hr hS hlt ha hw
    have hnil : π = [] := by
      apply Classical.byContradiction
      intro hne
      -- the least index that is not listed could come up
      have hex : ∃ j, j < ops.size ∧ listed.getD j true = false := by
        cases π with
        | nil => exact absurd rfl hne
        | cons x π => obtain ⟨j, k⟩ := x; exact ⟨j, hlt j k List.mem_cons_self, (hl j (hlt j k List.mem_cons_self)).2 ⟨k, List.mem_cons_self⟩⟩
      have hmin : ∀ m, (∃ j, j ≤ m ∧ j < ops.size ∧ listed.getD j true = false) → ∃ j, j < ops.size ∧ listed.getD j true = false ∧ ∀ i, i < j → listed.getD i true = true := by
        intro m
        induction m with
        | zero => rintro ⟨j, hj, h1, h2⟩; exact ⟨j, h1, h2, fun i hi => by omega⟩
        | succ m ih =>
          rintro ⟨j, hj, h1, h2⟩
          by_cases h : ∃ j, j ≤ m ∧ j < ops.size ∧ listed.getD j true = false
          · exact ih h
          · refine ⟨j, h1, h2, fun i hi => ?_⟩
            cases hi' : listed.getD i true with
            | true => rfl
            | false => exact absurd ⟨i, by omega, by omega, hi'⟩ h
      obtain ⟨j, hj⟩ := hex
      obtain ⟨j, h1, h2, h3⟩ := hmin j ⟨j, Nat.le_refl _, hj⟩
      have hmem : j ∈ Region.ready .any ops listed := by
        refine mem_ready.2 ⟨h2, ops[j], Array.getElem?_eq_getElem h1, fun e he hb => ?_⟩
        have hb' := List.all_eq_true.1 hback j (List.mem_range.2 h1)
        rw [Array.getElem?_eq_getElem h1] at hb'
        have hlt' := Array.all_eq_true'.1 hb' e he
        simp only [hb, Bool.not_true, Bool.false_or, decide_eq_true_eq] at hlt'
        have := h3 e.on hlt'
        have hs : e.on < listed.size := by omega
        simpa [hs] using this
      rw [hr] at hmem
      cases hmem
    subst hnil
    exact hQ E O R hS a w ha hw
  intro fuel
  induction fuel with
  | zero =>
    intro π listed E O R a w hf hsz hl _ _ _ hS ha hw
    have hnil : π = [] := List.eq_nil_of_length_eq_zero (by omega)
    subst hnil
    refine ⟨?_, hQ E O R hS a w ha hw⟩
    apply List.eq_nil_iff_forall_not_mem.2
    intro i hi
    obtain ⟨h1, o, h2, _⟩ := mem_ready.1 hi
    obtain ⟨k, hk⟩ := (hl i (Array.getElem?_eq_some_iff.1 h2).1).1 h1
    cases hk
  | succ fuel ih =>
    intro π listed E O R a w hf hsz hl hnd hcl hp hS ha hw
    refine ⟨fun hr => ?_, fun i hi => ?_⟩
    · -- nothing may come up
      refine hnone π listed E O R a w hsz hl hr hS (fun j k hj => ?_) ha hw
      -- an index of π is one of the region's
      have : ∀ (π : List (Nat × Kd)), pairsOk ops π = true → 2 ≤ π.length → ∀ j k, (j, k) ∈ π → j < ops.size := by
        intro π hp h2 j k hj
        obtain ⟨A, B, rfl⟩ := List.append_of_mem hj
        cases A with
        | nil =>
          cases B with
          | nil => simp at h2
          | cons y B =>
            simp only [List.nil_append, pairsOk, Bool.and_eq_true, List.all_eq_true] at hp
            have := hp.1 y List.mem_cons_self
            obtain ⟨y1, y2⟩ := y
            dsimp only at this
            cases hj' : ops[j]? with
            | none => rw [hj'] at this; simp at this
            | some o => exact (Array.getElem?_eq_some_iff.1 hj').1
        | cons x A =>
          obtain ⟨x1, x2⟩ := x
          obtain ⟨g, _⟩ := pairsOk_mid ((x1, x2) :: A) B hp
          obtain ⟨p, q, _, hq, _⟩ := g x1 x2 List.mem_cons_self
          exact (Array.getElem?_eq_some_iff.1 hq).1
      by_cases h2 : 2 ≤ π.length
      · exact this π hp h2 j k hj
      · cases π with
        | nil => cases hj
        | cons x π =>
          have : π = [] := List.eq_nil_of_length_eq_zero (by simp only [List.length_cons] at h2; omega)
          subst this
          simp only [List.mem_singleton] at hj
          subst hj
          obtain ⟨o, ho, _⟩ := hS
          exact (Array.getElem?_eq_some_iff.1 ho).1
    · obtain ⟨h1, o, h2, h3⟩ := mem_ready.1 hi
      have hlt := (Array.getElem?_eq_some_iff.1 h2).1
      obtain ⟨k, hk⟩ := (hl i hlt).1 h1
      obtain ⟨A, B, rfl⟩ := List.append_of_mem hk
      obtain ⟨g1, g2⟩ := pairsOk_mid A B hp
      have hnot : ∀ j kj, (j, kj) ∈ A → listed.getD j false = false := fun j kj hj => by
        obtain ⟨p, q, hp', _⟩ := g1 j kj hj
        have := (hl j (Array.getElem?_eq_some_iff.1 hp').1).2 ⟨kj, List.mem_append.2 (.inl hj)⟩
        exact getDb this
      have hsw : ∀ j kj, (j, kj) ∈ A → ∃ p, ops[j]? = some p ∧ swapOk ops kj k p o = true := fun j kj hj => by
        obtain ⟨p, q, hp', hq', h⟩ := g1 j kj hj
        obtain rfl : o = q := Option.some.inj (h2.symm.trans hq')
        rcases h with h | h
        · have := reach_listed hcl ops.size [i] j (fun j' hj' o' ho' e he hb => by
            simp only [List.mem_singleton] at hj'
            subst hj'
            obtain rfl : o = o' := Option.some.inj (h2.symm.trans ho')
            exact h3 e he hb) h
          rw [hnot j kj hj] at this
          cases this
        · exact ⟨p, hp', h⟩
      have hfront := SW.front hK h2 A B E O R hsw hS
      obtain ⟨o', ho', hst⟩ := hfront
      obtain rfl : o = o' := Option.some.inj (h2.symm.trans ho')
      have hi' : i < listed.size := by omega
      refine Stp.wpOp (ops := ops) h2 hst (fun E' O' R' hS' a' w' ha' hw' => ?_) ha hw
      refine ih (A ++ B) _ E' O' R' a' w' (by simp only [List.length_append, List.length_cons] at hf ⊢; omega) (by simpa using hsz) (fun j hj => ?_) ?_ (fun j oj hoj hlj e he hb => ?_) g2 hS' ha' hw'
      · rw [getD_set hi']
        have hndi : ∀ k', (i, k') ∉ A ++ B := by
          intro k' hk'
          simp only [List.map_append, List.map_cons] at hnd
          rw [List.nodup_append] at hnd
          obtain ⟨n1, n2, n3⟩ := hnd
          rcases List.mem_append.1 hk' with hk' | hk'
          · exact n3 i (List.mem_map_of_mem (f := (·.1)) hk') i List.mem_cons_self rfl
          · exact (List.nodup_cons.1 n2).1 (List.mem_map_of_mem (f := (·.1)) hk')
        by_cases hij : i = j
        · subst hij
          rw [if_pos rfl]
          exact ⟨fun h => by (cases h), fun ⟨k', hk'⟩ => absurd hk' (hndi k')⟩
        · rw [if_neg hij, hl j hj]
          constructor
          · rintro ⟨k', hk'⟩
            refine ⟨k', ?_⟩
            rcases List.mem_append.1 hk' with hk' | hk'
            · exact List.mem_append.2 (.inl hk')
            · rcases List.mem_cons.1 hk' with hk' | hk'
              · cases hk'; exact absurd rfl hij
              · exact List.mem_append.2 (.inr hk')
          · rintro ⟨k', hk'⟩
            refine ⟨k', ?_⟩
            rcases List.mem_append.1 hk' with hk' | hk'
            · exact List.mem_append.2 (.inl hk')
            · exact List.mem_append.2 (.inr (List.mem_cons_of_mem _ hk'))
      · simp only [List.map_append, List.map_cons] at hnd ⊢
        exact hnd.sublist (List.Sublist.append_left (List.sublist_cons_self _ _) _)
      · rw [getD_set hi'] at hlj ⊢
        split at hlj
        · rename_i hij
          subst hij
          obtain rfl : o = oj := Option.some.inj (h2.symm.trans hoj)
          rw [h3 e he hb]
          split <;> rfl
        · rw [hcl j oj hoj hlj e he hb]
          split <;> rfl


/-- **A region that draws its order, walked in the order π: S turns, R is only read.** -/
theorem V.drawR {id : Nat} {l : List Oper} {Q : Exit → Act → World → Prop} (π : List (Nat × Kd)) (T : Tab) (S R : List Ent) (hm : P.follows .mixedOrders = true) (hok : (permOk l.length π && pairsOk l.toArray π && backOk l.toArray) = true) (hO : ∀ w, Hp w0 O w → Hp w0 (S ++ R) w)
    (h : SW P n w0 l.toArray T (fun E S R => VE n w0 (S ++ R) E Q .normal) π E S R) : V P n w0 O E (.region id l.toArray true) Q := by
  intro a w ha hw
  simp only [Bool.and_eq_true] at hok
  obtain ⟨⟨h1, h2⟩, h3⟩ := hok
  obtain ⟨n1, n2⟩ := permOk_nodup h1
  refine wp_region_any hm ?_
  have hlen : π.length = l.toArray.size := by
    simp only [permOk, Bool.and_eq_true, decide_eq_true_eq] at h1
    simpa using h1.1.2
  refine any_of_walk (K := fun E S R => VE n w0 (S ++ R) E Q .normal) (fun E E' O O' R hE hO h a w ha hw => h a w (ha.mono fun t u ht => by rw [hE]; exact ht) (hp_nil (frame hO) w hw)) (fun _ _ _ h => h) h3 _ π _ E S R a _ (by omega) (by simp) (fun j hj => ?_) n1 (fun j o _ hj => ?_) h2 h ha ((hO _ hw).ext (below_drew _ _))
  · simp only [List.size_toArray] at hj
    exact ⟨fun _ => n2 j hj, fun _ => by simp [hj]⟩
  · rw [getD_replicate_false'] at hj
    cases hj
where
  getD_replicate_false' {m j : Nat} : (Array.replicate m false).getD j false = false := by
    rcases Nat.lt_or_ge j m with h | h
    · simp [h]
    · simp [h]

/-! ### steps of such a walk -/
section
variable {o : Oper} {i d : Nat} {π : List (Nat × Kd)} {K : Env → List Ent → List Ent → Prop}
theorem SW.q {u : Value} (ho : ops[i]? = some o) (hg : Wants ops E o) (hd : o.dst = some d) (hdn : d < n) (hy : YQ P w0 (O ++ R) E o u) (h : SW P n w0 ops T K π ((d, u) :: E) O R) : SW P n w0 ops T K ((i, 0) :: π) E O R :=
  ⟨o, ho, by rw [Stp, if_neg (by decide), if_neg (by decide)]; exact ⟨_, _, _, ⟨()⟩, .quiet hg.guard hy, dok hd hdn, fun _ => by rw [hd]; exact h⟩⟩
theorem SW.p {u : Value} (ho : ops[i]? = some o) (hg : Wants ops E o) (hd : o.dst = some d) (hdn : d < n) (hy : YQ P w0 R E o u) (h : SW P n w0 ops T K π ((d, u) :: E) O R) : SW P n w0 ops T K ((i, 5) :: π) E O R :=
  ⟨o, ho, by rw [Stp, if_neg (by decide), if_neg (by decide)]; exact ⟨_, _, _, ⟨()⟩, .quietR hg.guard hy, dok hd hdn, fun _ => by rw [hd]; exact h⟩⟩
theorem SW.r {u : Value} (ho : ops[i]? = some o) (hg : Wants ops E o) (hd : o.dst = some d) (hdn : d < n) (hy : YR P E o u) (h : SW P n w0 ops T K π ((d, u) :: E) O R) : SW P n w0 ops T K ((i, 5) :: π) E O R := SW.p ho hg hd hdn hy.q h
theorem SW.new {X : Type} [hX : Nonempty X] {u : X → Value} {N : X → List Ent} (ho : ops[i]? = some o) (hg : Wants ops E o) (hd : o.dst = some d) (hdn : d < n) (hy : YN P w0 (O ++ R) E o u N) (h : ∀ x, SW P n w0 ops T K π ((d, u x) :: E) (N x ++ O) R) : SW P n w0 ops T K ((i, 1) :: π) E O R :=
  ⟨o, ho, by rw [Stp, if_neg (by decide), if_neg (by decide)]; exact ⟨_, _, _, hX, .make hg.guard hy, dok hd hdn, fun x => by rw [hd]; exact h x⟩⟩
theorem SW.new1 {X : Type} [Nonempty X] {u : X → Value} {N : X → Ent} (ho : ops[i]? = some o) (hg : Wants ops E o) (hd : o.dst = some d) (hdn : d < n) (hy : YN P w0 (O ++ R) E o u (fun x => [N x])) (h : ∀ x, SW P n w0 ops T K π ((d, u x) :: E) (N x :: O) R) : SW P n w0 ops T K ((i, 1) :: π) E O R := SW.new ho hg hd hdn hy h
theorem SW.a {u : Nat → Value} {e : Nat → Ent} (ho : ops[i]? = some o) (hg : o.guard = none) (hd : o.dst = some d) (hdn : d < n) (hT : T.get i = (u, e)) (hy : ∀ w0, YN P w0 [] E o u (fun b => [e b])) (h : ∀ b, SW P n w0 ops T K π ((d, u b) :: E) (e b :: O) R) : SW P n w0 ops T K ((i, 2) :: π) E O R :=
  ⟨o, ho, by
    rw [Stp, if_pos rfl, hT]
    exact ⟨hg, dok hd hdn, YA.of hy, fun b => by rw [hd]; exact h b⟩⟩
theorem SW.c {X : Type} [hX : Nonempty X] {u : X → Value} {O' : X → List Ent} (ho : ops[i]? = some o) (hg : Wants ops E o) (hd : o.dst = some d) (hdn : d < n) (hy : YC P w0 (O ++ R) E o u (fun x => O' x ++ R)) (h : ∀ x, SW P n w0 ops T K π ((d, u x) :: E) (O' x) R) : SW P n w0 ops T K ((i, 3) :: π) E O R :=
  ⟨o, ho, by rw [Stp, if_neg (by decide), if_neg (by decide)]; exact ⟨_, _, _, hX, .turn hg.guard hy, dok hd hdn, fun x => by rw [hd]; exact h x⟩⟩
theorem SW.s {X : Type} [hX : Nonempty X] {u : X → Value} {O' : X → List Ent} (ho : ops[i]? = some o) (hg : Wants ops E o) (hd : o.dst = none) (hy : YC P w0 (O ++ R) E o u (fun x => O' x ++ R)) (h : ∀ x, SW P n w0 ops T K π E (O' x) R) : SW P n w0 ops T K ((i, 3) :: π) E O R :=
  ⟨o, ho, by rw [Stp, if_neg (by decide), if_neg (by decide)]; exact ⟨_, _, _, hX, .turn hg.guard hy, (fun d' h' => by rw [hd] at h'; cases h'), fun x => by rw [hd]; exact h x⟩⟩
theorem SW.no {k : Kd} {j t : Nat} {b b' : Bool} (ho : ops[i]? = some o) (hk : k ≠ 2 ∧ k ≠ 4) (hg : o.guard = some (j, b)) (hj : (ops[j]?).bind (·.dst) = some t) (hb : E.get t = some (.bool b')) (hne : (b' == b) = false) (hd : o.dst = some d) (hdn : d < n)
    (h : SW P n w0 ops T K π ((d, undef) :: E) O R) : SW P n w0 ops T K ((i, k) :: π) E O R :=
  ⟨o, ho, by
    rw [Stp, if_neg hk.1, if_neg hk.2]
    refine ⟨_, _, _, ⟨()⟩, .skip (hne ▸ Guard.some hg hj hb), dok hd hdn, fun _ => by rw [hd]; exact h⟩⟩
theorem SW.split (hK : Lax3 w0 K) (t : Nat) (b : Bool) (hb : E.get t = some (.bool b)) (ht : b = true → SW P n w0 ops T K π ((t, .bool true) :: E) O R) (hf : b = false → SW P n w0 ops T K π ((t, .bool false) :: E) O R) : SW P n w0 ops T K π E O R := by
  cases b with
  | true => exact SW.lax hK π _ _ _ _ _ (fun s => (Env.get_shadow t _ E hb s).symm) (fun _ _ h => h) (ht rfl)
  | false => exact SW.lax hK π _ _ _ _ _ (fun s => (Env.get_shadow t _ E hb s).symm) (fun _ _ h => h) (hf rfl)
theorem eqO {O' : List Ent} {S : Act → World → Prop} (h : O = O') (hk : VX n w0 O' E S) : VX n w0 O E S := h ▸ hk
theorem lax_ve {Q : Exit → Act → World → Prop} : Lax3 w0 (fun E S R => VE n w0 (S ++ R) E Q .normal) := fun _ _ _ _ _ hE hO h a w ha hw => h a w (ha.mono fun t u ht => by rw [hE]; exact ht) (hp_nil (frame hO) w hw)
theorem UpdF.app {X : Type} {S R : List Ent} {e : Ent} {f : X → Ent} {S' : X → List Ent} (h : UpdF S e f S') : UpdF (S ++ R) e f (fun x => S' x ++ R) := by
  induction h with
  | here => exact UpdF.here
  | there _ ih => exact UpdF.there ih
  | thereS _ ih =>
    rename_i S1 O1 _ _ _
    have := UpdF.thereS (S := S1) ih
    simpa only [List.append_assoc] using this
theorem SW.t {X : Type} [hX : Nonempty X] {u : X → Value} {O' : X → List Ent} (ho : ops[i]? = some o) (hg : Wants ops E o) (hd : o.dst = none) (hy : YC P w0 (O ++ R) E o u O') (h : ∀ x, SW P n w0 ops T K π E (O' x) []) : SW P n w0 ops T K ((i, 4) :: π) E O R :=
  ⟨o, ho, by rw [Stp, if_neg (by decide), if_pos rfl]; exact ⟨_, _, _, hX, hg.guard, hy, (fun d' h' => by rw [hd] at h'; cases h'), fun x => by rw [hd]; exact h x⟩⟩
theorem SW.done (h : K E O R) : SW P n w0 ops T K [] E O R := h
end
end
end Dr
theorem Hp.pick {w0 w : World} {O M F : List Ent} (hw : Hp w0 O w) (h : Pick O M F) : Hp w0 M w := (hw.perm' h.perm).sub (List.sublist_append_right _ _)
theorem Hp.pickS {w0 w : World} {O M F : List Ent} (hw : Hp w0 O w) (h : Pick O M F) : Hp w0 (M ++ F) w := (hw.perm' h.perm).perm' List.perm_append_comm
end Go.Proofs.Ytfeciemlhiclbaa


namespace Go.Proofs.Ytfeciemlhiclbaa
open Go.RowKit

section
variable {P : Program} {E : Env} {o : Oper}
end

theorem in_t {n lo hi : Int} (h : lo ≤ n) : icmp .leq n hi = decide (lo ≤ n ∧ n ≤ hi) := by
  rw [Bool.eq_iff_iff, decide_eq_true_eq]
  constructor
  · intro h; have := ic_leq h; omega
  · rintro ⟨_, h⟩; exact decide_eq_true h
theorem in_f {n lo hi : Int} (h : n < lo) : false = decide (lo ≤ n ∧ n ≤ hi) := by
  symm; rw [decide_eq_false_iff_not]; omega
end Go.Proofs.Ytfeciemlhiclbaa


namespace Go.Proofs.Ytfeciemlhiclbaa

theorem rootFrom_lt (n : Nat) : ∀ (todo root : Nat), Ieee.Datum.rootFrom n todo root < root + 2 ^ todo
  | 0, root => by simp [Ieee.Datum.rootFrom]
  | todo + 1, root => by
    have h1 := rootFrom_lt n todo (root + 1 <<< todo)
    have h2 := rootFrom_lt n todo root
    simp only [Ieee.Datum.rootFrom]
    rw [Nat.shiftLeft_eq, Nat.one_mul] at h1 ⊢
    rw [Nat.pow_succ]
    split <;> omega
theorem fover_sqrt (y : Nat) : fover .f64 .f32 (fsqrt (up y)) = false := by
  have hq : fover .f64 .f32 (qn .f64) = false := by decide
  cases hd : FloatKind.f32.decode y with
  | nan s f =>
    have hn : fnan .f32 y = true := by unfold fnan; rw [hd]; rfl
    rw [up_nan hn]
    decide
  | infinity s =>
    have hu : up y = Ieee.double.word s Ieee.double.infRung := by
      unfold up fconv; rw [if_neg (by decide), hd]; rfl
    rw [hu]
    cases s <;> decide
  | number s m e =>
    obtain ⟨g1, g2, g3⟩ := read32 hd
    have hu : up y = FloatKind.f64.encode (.number s m e) := by
      unfold up fconv; rw [if_neg (by decide), hd]
    have hml : m.log2 ≤ 23 := by
      by_cases h0 : m = 0
      · subst h0; decide
      · have := (Nat.log2_lt h0).2 g1
        omega
    obtain ⟨m', e', k1, k2⟩ := encode_small s (m := m) (e := e) (t := 1149) (by omega) (by decide)
    rw [← hu] at k1
    obtain ⟨b1, b2, b3, _⟩ := decode_double_bound k1
    have k1' : Ieee.double.read (up y) = .number s m' e' := k1
    unfold fsqrt Ieee.Format.sqrt
    rw [k1']
    simp only [Ieee.Datum.root]
    split
    · rename_i h0
      subst h0
      obtain ⟨m2, e2, k3, k4⟩ := encode_small s (m := 0) (e := e') (t := 0) (by have : (0 : Nat).log2 = 0 := by decide
                                                                                omega) (by decide)
      exact fover_small k3 (by omega)
    · rename_i h0
      split
      · exact hq
      · simp only [Option.map_some, Option.getD_some]
        generalize hmore : 2 * (Ieee.double.fractionBits + 2) - m'.log2 + ((e' - ((2 * (Ieee.double.fractionBits + 2) - m'.log2 : Nat) : Int)) % 2).toNat = more
        have hn : (m' <<< more).log2 = m'.log2 + more := by rw [shl_eq, log2_mul_pow h0]
        have hr := rootFrom_lt (m' <<< more) ((m' <<< more).log2 / 2 + 1) 0
        generalize Ieee.Datum.rootFrom (m' <<< more) ((m' <<< more).log2 / 2 + 1) 0 = whole at hr ⊢
        rw [hn, Nat.zero_add] at hr
        generalize hb : (whole * whole != m' <<< more).toNat = bit
        have hb1 : bit ≤ 1 := by rw [← hb]; cases (whole * whole != m' <<< more) <;> decide
        have hlog : (2 * whole + bit).log2 ≤ (m'.log2 + more) / 2 + 1 := by
          by_cases hz : 2 * whole + bit = 0
          · rw [hz]; have : (0 : Nat).log2 = 0 := by decide
            omega
          · have : 2 * whole + bit < 2 ^ ((m'.log2 + more) / 2 + 2) := by
              rw [Nat.pow_succ]; omega
            have := (Nat.log2_lt hz).2 this
            omega
        obtain ⟨m2, e2, k3, k4⟩ := encode_small false (m := 2 * whole + bit) (e := (e' - (more : Int)) / 2 - 1) (t := 1090) (by omega) (by decide)
        exact fover_small k3 (by omega)
def sqrt32 (x : Nat) : Nat := fconv .f64 .f32 (fsqrt (fconv .f32 .f64 x))
end Go.Proofs.Ytfeciemlhiclbaa


namespace Go.Proofs.Ytfeciemlhiclbaa
open Go.RowKit

abbrev V3 := Nat × Nat × Nat
def z3 : V3 := (0, 0, 0)
def vcs (v : V3) : List Value := [.float .f32 v.1, .float .f32 v.2.1, .float .f32 v.2.2]
def vv (v : V3) : Value := .agg #[.float .f32 v.1, .float .f32 v.2.1, .float .f32 v.2.2]
def vl : List V3 → List Value
  | [] => []
  | v :: vs => .float .f32 v.1 :: .float .f32 v.2.1 :: .float .f32 v.2.2 :: vl vs
theorem vl_length : ∀ vs : List V3, (vl vs).length = vs.length * 3
  | [] => rfl
  | v :: vs => by simp only [vl, List.length_cons, vl_length vs]; omega
theorem vl_scal : ∀ vs : List V3, (vl vs).all scal = true
  | [] => rfl
  | v :: vs => by simp only [vl, List.all_cons, vl_scal vs, scal, Bool.and_self]
theorem vl_append : ∀ us vs : List V3, vl us ++ vl vs = vl (us ++ vs)
  | [], vs => rfl
  | u :: us, vs => by simp only [vl, List.cons_append, vl_append us vs]
theorem vl_snoc (us : List V3) (v : V3) : vl us ++ [.float .f32 v.1, .float .f32 v.2.1, .float .f32 v.2.2] = vl (us ++ [v]) := vl_append us [v]
theorem vl_take : ∀ (vs : List V3) (k : Nat), k < vs.length → ((vl vs).drop (k * 3)).take 3 = vcs (vs.getD k z3)
  | [], _, h => by simp at h
  | v :: vs, 0, _ => rfl
  | v :: vs, k + 1, h => by
    have ih := vl_take vs k (by simpa using h)
    rw [show (k + 1) * 3 = k * 3 + 1 + 1 + 1 by omega]
    simpa [vl, List.getD] using ih
section
variable {P : Program} {n : Nat} {w0 : World} {O : List Ent} {E : Env} {o : Oper}
theorem yq_loadV {t : TypeId} {x : Operand} {a : Option Addr} {k : Nat} {vs : List V3} {fs : Array Field} (ho : o.op = .load t x) (ht : P.underlying t = some (.struct fs)) (hz : (P.info? t).map (·.size) = some 3) (hx : E.opd x = some (.pointer (some (adr a (k * 3))))) (hs : Sees w0 O a (vl vs)) (hk : k < vs.length) :
    YQ P w0 O E o (vv (vs.getD k z3)) :=
  yq_loadS (cs := vcs (vs.getD k z3)) ho ht hz hx hs (vl_take vs k hk) rfl rfl
end

def add3 (a b : V3) : V3 := (fop .add .f32 a.1 b.1, fop .add .f32 a.2.1 b.2.1, fop .add .f32 a.2.2 b.2.2)
def sub3 (a b : V3) : V3 := (fop .sub .f32 a.1 b.1, fop .sub .f32 a.2.1 b.2.1, fop .sub .f32 a.2.2 b.2.2)
def scale3 (a : V3) (k : Nat) : V3 := (fop .mul .f32 a.1 k, fop .mul .f32 a.2.1 k, fop .mul .f32 a.2.2 k)
def inner3 (a b : V3) : Nat := fop .add .f32 (fop .add .f32 (fop .mul .f32 a.1 b.1) (fop .mul .f32 a.2.1 b.2.1)) (fop .mul .f32 a.2.2 b.2.2)
def cross3 (a b : V3) : V3 := (fop .sub .f32 (fop .mul .f32 a.2.1 b.2.2) (fop .mul .f32 a.2.2 b.2.1), fop .sub .f32 (fop .mul .f32 a.2.2 b.1) (fop .mul .f32 a.1 b.2.2), fop .sub .f32 (fop .mul .f32 a.1 b.2.1) (fop .mul .f32 a.2.1 b.1))
def long3 (a : V3) : Nat := sqrt32 (inner3 a a)
def fin3 (a : V3) : Bool := fin a.1 && fin a.2.1 && fin a.2.2
def Can3 (a : V3) : Prop := Can .f32 a.1 ∧ Can .f32 a.2.1 ∧ Can .f32 a.2.2
theorem fin3_t {a : V3} (h1 : fin a.1 = true) (h2 : fin a.2.1 = true) : fin a.2.2 = fin3 a := by unfold fin3; rw [h1, h2]; rfl
theorem fin3_f1 {a : V3} (h1 : fin a.1 = false) : false = fin3 a := by unfold fin3; rw [h1]; rfl
theorem fin3_f2 {a : V3} (h1 : fin a.1 = true) (h2 : fin a.2.1 = false) : false = fin3 a := by unfold fin3; rw [h1, h2]; rfl
def between3 (a b : V3) (k : Nat) : V3 := add3 a (scale3 (sub3 b a) k)
/-! ### the field of a segment -/
def segX (a b p : V3) : Nat := fop .mul .f32 (long3 (sub3 p a)) (long3 (sub3 p b))
def segD (a b p : V3) : Nat := fop .mul .f32 (segX a b p) (fop .add .f32 (segX a b p) (inner3 (sub3 p a) (sub3 p b)))
def segQ (a b p : V3) : Nat := fop .quo .f32 (fop .add .f32 (long3 (sub3 p a)) (long3 (sub3 p b))) (segD a b p)
def segF (a b p : V3) : V3 := if fcmp .gtr .f32 (segD a b p) 0 && fin (segQ a b p) then scale3 (cross3 (sub3 p a) (sub3 p b)) (segQ a b p) else z3
theorem segF_no1 {a b p : V3} (h : fcmp .gtr .f32 (segD a b p) 0 = false) : segF a b p = z3 := by unfold segF; rw [h]; rfl
theorem segF_no2 {a b p : V3} (h : fcmp .gtr .f32 (segD a b p) 0 = true) (h2 : fin (segQ a b p) = false) : segF a b p = z3 := by unfold segF; rw [h, h2]; rfl
theorem segF_yes {a b p : V3} (h : fcmp .gtr .f32 (segD a b p) 0 = true) (h2 : fin (segQ a b p) = true) : segF a b p = scale3 (cross3 (sub3 p a) (sub3 p b)) (segQ a b p) := by unfold segF; rw [h, h2]; rfl
end Go.Proofs.Ytfeciemlhiclbaa


namespace Go.Proofs.Ytfeciemlhiclbaa
open Go.RowKit

abbrev Wr := List V3 × Bool × Nat
def zw : Wr := ([], false, 0)
def wcs (p : Option Addr × Nat) (w : Wr) : List Value := [.slice p.1 w.1.length p.2, .bool w.2.1, .float .f32 w.2.2]
def whdF (f : Nat → Option Addr × Nat) : Nat → List Wr → List Value
  | _, [] => []
  | i, w :: ws => .slice (f i).1 w.1.length (f i).2 :: .bool w.2.1 :: .float .f32 w.2.2 :: whdF f (i + 1) ws
def whd (f : Nat → Option Addr × Nat) (ws : List Wr) : List Value := whdF f 0 ws
theorem whdF_length (f : Nat → Option Addr × Nat) : ∀ (ws : List Wr) (i : Nat), (whdF f i ws).length = ws.length * 3
  | [], _ => rfl
  | w :: ws, i => by simp only [whdF, List.length_cons, whdF_length f ws]; omega
theorem whd_length (f : Nat → Option Addr × Nat) (ws : List Wr) : (whd f ws).length = ws.length * 3 := whdF_length f ws 0
theorem whdF_scal (f : Nat → Option Addr × Nat) : ∀ (ws : List Wr) (i : Nat), (whdF f i ws).all scal = true
  | [], _ => rfl
  | w :: ws, i => by simp only [whdF, List.all_cons, whdF_scal f ws, scal, Bool.and_self]
theorem whd_scal (f : Nat → Option Addr × Nat) (ws : List Wr) : (whd f ws).all scal = true := whdF_scal f ws 0
theorem whdF_take (f : Nat → Option Addr × Nat) : ∀ (ws : List Wr) (i k : Nat), k < ws.length → ((whdF f i ws).drop (k * 3)).take 3 = wcs (f (i + k)) (ws.getD k zw)
  | [], _, _, h => by simp at h
  | w :: ws, i, 0, _ => rfl
  | w :: ws, i, k + 1, h => by
    have ih := whdF_take f ws (i + 1) k (by simpa using h)
    rw [show (k + 1) * 3 = k * 3 + 1 + 1 + 1 by omega, show i + (k + 1) = i + 1 + k by omega]
    simpa [whdF, List.getD] using ih
theorem whd_take {f : Nat → Option Addr × Nat} {ws : List Wr} {k : Nat} (h : k < ws.length) : ((whd f ws).drop (k * 3)).take 3 = wcs (f k) (ws.getD k zw) := by
  have := whdF_take f ws 0 k h
  rwa [Nat.zero_add] at this
theorem take_get {us cs : List Value} {k j : Nat} (h : (us.drop k).take 3 = cs) (hj : j < 3) : us[k + j]? = cs[j]? := by
  subst h
  rw [List.getElem?_take, if_pos hj, List.getElem?_drop]
theorem whd_get0 {f : Nat → Option Addr × Nat} {ws : List Wr} {k : Nat} (h : k < ws.length) : (whd f ws)[k * 3]? = some (.slice (f k).1 (ws.getD k zw).1.length (f k).2) := take_get (j := 0) (whd_take h) (by decide)
def wrents (t : TypeId) (f : Nat → Option Addr × Nat) (ws : List Wr) : List Ent := (List.range ws.length).map fun i => ⟨(f i).1, vl (ws.getD i zw).1, (f i).2 * 3, t⟩
theorem wrents_mem {t : TypeId} {f : Nat → Option Addr × Nat} {ws : List Wr} {i : Nat} (h : i < ws.length) : (⟨(f i).1, vl (ws.getD i zw).1, (f i).2 * 3, t⟩ : Ent) ∈ wrents t f ws := by
  unfold wrents
  exact List.mem_map.2 ⟨i, by simpa using h, rfl⟩
/-- Each wire's points lie where its header says. -/
def WRws (w : World) (f : Nat → Option Addr × Nat) (ws : List Wr) : Prop := ∀ i, i < ws.length → Cl w (f i).1 (vl (ws.getD i zw).1)
theorem WRws.below {w w' : World} {f : Nat → Option Addr × Nat} {ws : List Wr} (h : WRws w f ws) (hb : Below w.heap.size w w') : WRws w' f ws := fun i hi => (h i hi).below hb
theorem WRws.root {w0 w : World} {O : List Ent} {f : Nat → Option Addr × Nat} {ws : List Wr} (h : WRws w0 f ws) (hw : Hp w0 O w) : WRws w f ws := h.below hw.below
inductive WRowsIn : List Ent → TypeId → (Nat → Option Addr × Nat) → List Wr → Prop
  | here {t : TypeId} {f : Nat → Option Addr × Nat} {ws : List Wr} {O : List Ent} : WRowsIn (wrents t f ws ++ O) t f ws
  | last {t : TypeId} {f : Nat → Option Addr × Nat} {ws : List Wr} : WRowsIn (wrents t f ws) t f ws
  | there {t : TypeId} {f : Nat → Option Addr × Nat} {ws : List Wr} {e : Ent} {O : List Ent} : WRowsIn O t f ws → WRowsIn (e :: O) t f ws
  | thereS {t : TypeId} {f : Nat → Option Addr × Nat} {ws : List Wr} {S O : List Ent} : WRowsIn O t f ws → WRowsIn (S ++ O) t f ws
theorem WRowsIn.mem {O : List Ent} {t : TypeId} {f : Nat → Option Addr × Nat} {ws : List Wr} (h : WRowsIn O t f ws) : ∀ i, i < ws.length → (⟨(f i).1, vl (ws.getD i zw).1, (f i).2 * 3, t⟩ : Ent) ∈ O := by
  induction h with
  | here => exact fun i hi => List.mem_append_left _ (wrents_mem hi)
  | last => exact fun i hi => wrents_mem hi
  | there _ ih => exact fun i hi => List.mem_cons_of_mem _ (ih i hi)
  | thereS _ ih => exact fun i hi => List.mem_append_right _ (ih i hi)
theorem WRws.own {w0 w : World} {O : List Ent} {t : TypeId} {f : Nat → Option Addr × Nat} {ws : List Wr} (h : WRowsIn O t f ws) (hw : Hp w0 O w) : WRws w f ws := fun i hi => Sees.own (h.mem i hi) w hw
theorem wtake_snoc {ws : List Wr} {k : Nat} (h : k < ws.length) : ws.take k ++ [ws.getD k zw] = ws.take (k + 1) := by
  rw [List.take_succ_eq_append_getElem h]; simp [h]
def Cans3 (vs : List V3) : Prop := ∀ v ∈ vs, Can3 v
theorem Cans3.row {vs : List V3} (h : Cans3 vs) {k : Nat} (hk : k < vs.length) : Can3 (vs.getD k z3) := h _ (by simp [hk])
def CansW (ws : List Wr) : Prop := ∀ w ∈ ws, Cans3 w.1 ∧ Can .f32 w.2.2
theorem CansW.row {ws : List Wr} (h : CansW ws) {k : Nat} (hk : k < ws.length) : Cans3 (ws.getD k zw).1 ∧ Can .f32 (ws.getD k zw).2.2 := h _ (by simp [hk])
theorem vmem {vs : List V3} {k : Nat} (h : k < vs.length) : vs.getD k z3 ∈ vs := by simp [h]
section
variable {P : Program} {n : Nat} {w0 : World} {O : List Ent} {E : Env} {o : Oper}
theorem yq_loadW {t : TypeId} {x : Operand} {a : Option Addr} {k : Nat} {f : Nat → Option Addr × Nat} {ws : List Wr} {fs : Array Field} (ho : o.op = .load t x) (ht : P.underlying t = some (.struct fs)) (hz : (P.info? t).map (·.size) = some 3) (hx : E.opd x = some (.pointer (some (adr a (k * 3))))) (hs : Sees w0 O a (whd f ws)) (hk : k < ws.length) :
    YQ P w0 O E o (.agg #[.slice (f k).1 (ws.getD k zw).1.length (f k).2, .bool (ws.getD k zw).2.1, .float .f32 (ws.getD k zw).2.2]) :=
  yq_loadS (cs := wcs (f k) (ws.getD k zw)) ho ht hz hx hs (whd_take hk) rfl rfl
end

/-! ### sizes -/
def wsum (ws : List Wr) (k : Nat) : Nat := ((ws.take k).map fun w => w.1.length).sum
def wbulk (ws : List Wr) : Nat := ws.length + wsum ws ws.length
theorem wsum_succ {ws : List Wr} {k : Nat} (h : k < ws.length) : wsum ws (k + 1) = wsum ws k + (ws.getD k zw).1.length := by
  unfold wsum
  rw [← wtake_snoc h]
  simp
theorem wsum_mono (ws : List Wr) : ∀ (k m : Nat), k ≤ m → m ≤ ws.length → wsum ws k ≤ wsum ws m
  | k, 0, h, _ => by rw [show k = 0 by omega]; exact Nat.le_refl _
  | k, m + 1, h, hm => by
    by_cases e : k = m + 1
    · rw [e]; exact Nat.le_refl _
    · rw [wsum_succ (by omega)]
      have := wsum_mono ws k m (by omega) (by omega)
      omega
theorem wbulk_row {ws : List Wr} {k : Nat} (h : k < ws.length) : (ws.getD k zw).1.length + ws.length ≤ wbulk ws := by
  unfold wbulk
  have h1 := wsum_mono ws (k + 1) ws.length (by omega) (Nat.le_refl _)
  rw [wsum_succ h] at h1
  omega

/-! ### what is valid -/
def wireOk (w : Wr) : Bool := decide (2 ≤ w.1.length ∧ w.1.length ≤ 48) && w.1.all fin3 && fin w.2.2
def wiresOk (ws : List Wr) : Bool := decide (ws.length ≤ 8) && ws.all wireOk
section
variable {ps : List V3} {cl : Bool} {cur : Nat}
theorem wire_no1 (h : ¬ (2 ≤ ps.length ∧ ps.length ≤ 48)) : false = wireOk (ps, cl, cur) := by unfold wireOk; rw [decide_eq_false h]; rfl
theorem wire_no2 (h : ps.all fin3 = false) : false = wireOk (ps, cl, cur) := by unfold wireOk; rw [h, Bool.and_false]; rfl
theorem wire_yes (h : 2 ≤ ps.length ∧ ps.length ≤ 48) (h2 : ps.all fin3 = true) : fin cur = wireOk (ps, cl, cur) := by unfold wireOk; rw [decide_eq_true h, h2]; rfl
theorem wire_is {w : Wr} (h : wireOk w = true) : 2 ≤ w.1.length ∧ w.1.length ≤ 48 ∧ w.1.all fin3 = true ∧ fin w.2.2 = true := by
  unfold wireOk at h
  simp only [Bool.and_eq_true, decide_eq_true_eq] at h
  exact ⟨h.1.1.1, h.1.1.2, h.1.2, h.2⟩
end
theorem vall_getD {p : V3 → Bool} {vs : List V3} : vs.all p = true ↔ ∀ k, k < vs.length → p (vs.getD k z3) = true := by
  rw [List.all_eq_true]
  constructor
  · intro h k hk
    exact h _ (vmem hk)
  · intro h x hx
    obtain ⟨k, hk, rfl⟩ := List.getElem_of_mem hx
    have := h k hk
    simpa [List.getD, hk] using this
theorem wmem {ws : List Wr} {k : Nat} (h : k < ws.length) : ws.getD k zw ∈ ws := by simp [h]
theorem wall_getD {p : Wr → Bool} {ws : List Wr} : ws.all p = true ↔ ∀ k, k < ws.length → p (ws.getD k zw) = true := by
  rw [List.all_eq_true]
  constructor
  · intro h k hk
    exact h _ (wmem hk)
  · intro h x hx
    obtain ⟨k, hk, rfl⟩ := List.getElem_of_mem hx
    have := h k hk
    simpa [List.getD, hk] using this
theorem vall_idx (p : V3 → Bool) (vs : List V3) : (!decide (0 ≤ idxI (fun k => !p (vs.getD k z3)) vs.length)) = vs.all p := by
  rw [idxI_any]
  rw [Bool.eq_iff_iff, vall_getD]
  simp only [Bool.not_eq_true', List.any_eq_false, List.mem_range, Bool.not_eq_false]
theorem wall_idx (p : Wr → Bool) (ws : List Wr) : (!decide (0 ≤ idxI (fun k => !p (ws.getD k zw)) ws.length)) = ws.all p := by
  rw [idxI_any]
  rw [Bool.eq_iff_iff, wall_getD]
  simp only [Bool.not_eq_true', List.any_eq_false, List.mem_range, Bool.not_eq_false]

/-! ### the field -/
def segN (w : Wr) : Nat := if w.2.1 then w.1.length else w.1.length - 1
def segA (w : Wr) (i : Nat) : V3 := w.1.getD i z3
def segB (w : Wr) (i : Nat) : V3 := w.1.getD ((i + 1) % w.1.length) z3
def sumW (w : Wr) (p : V3) : Nat → V3
  | 0 => z3
  | i + 1 => add3 (sumW w p i) (segF (segA w i) (segB w i) p)
def wireF (w : Wr) (p : V3) : V3 := scale3 (sumW w p (segN w)) w.2.2
def sumA (ws : List Wr) (p s0 : V3) : Nat → V3
  | 0 => s0
  | i + 1 => add3 (sumA ws p s0 i) (wireF (ws.getD i zw) p)
/-- The field, as the program makes it. -/
def fieldI (ws : List Wr) (p : V3) : V3 := sumA ws p z3 ws.length
/-- The field, as the reference makes it. -/
def fieldS (ws : List Wr) (p : V3) : V3 := sumA ws p (if fin3 p then z3 else sub3 p p) ws.length
end Go.Proofs.Ytfeciemlhiclbaa


namespace Go.Proofs.Ytfeciemlhiclbaa
open Go.RowKit

def sl : List (V3 × V3) → List Value
  | [] => []
  | s :: ss => .float .f32 s.1.1 :: .float .f32 s.1.2.1 :: .float .f32 s.1.2.2 :: .float .f32 s.2.1 :: .float .f32 s.2.2.1 :: .float .f32 s.2.2.2 :: sl ss
theorem sl_length : ∀ ss : List (V3 × V3), (sl ss).length = ss.length * 6
  | [] => rfl
  | s :: ss => by simp only [sl, List.length_cons, sl_length ss]; omega
theorem sl_scal : ∀ ss : List (V3 × V3), (sl ss).all scal = true
  | [] => rfl
  | s :: ss => by simp only [sl, List.all_cons, sl_scal ss, scal, Bool.and_self]
theorem sl_append : ∀ us vs : List (V3 × V3), sl us ++ sl vs = sl (us ++ vs)
  | [], vs => rfl
  | u :: us, vs => by simp only [sl, List.cons_append, sl_append us vs]
theorem sl_take : ∀ (ss : List (V3 × V3)) (k : Nat), k < ss.length → ((sl ss).drop (k * 6)).take 6 = sl [ss.getD k (z3, z3)]
  | [], _, h => by simp at h
  | s :: ss, 0, _ => rfl
  | s :: ss, k + 1, h => by
    have ih := sl_take ss k (by simpa using h)
    rw [show (k + 1) * 6 = k * 6 + 1 + 1 + 1 + 1 + 1 + 1 by omega]
    simpa [sl, List.getD] using ih
def segK (w : Wr) (k : Nat) : List (V3 × V3) := (List.range k).map fun i => (segA w i, segB w i)
theorem segK_length (w : Wr) (k : Nat) : (segK w k).length = k := by simp [segK]
theorem segK_snoc (w : Wr) (k : Nat) : sl (segK w k) ++ sl [(segA w k, segB w k)] = sl (segK w (k + 1)) := by
  rw [sl_append]; simp [segK, List.range_succ]
theorem segK_get (w : Wr) {k m : Nat} (h : k < m) : (segK w m).getD k (z3, z3) = (segA w k, segB w k) := by simp [segK, List.getD, h]
theorem segB_in {w : Wr} {i : Nat} (h : i + 1 < w.1.length) : segB w i = w.1.getD (i + 1) z3 := by unfold segB; rw [Nat.mod_eq_of_lt h]
theorem segB_end {w : Wr} {i : Nat} (h : i + 1 = w.1.length) : segB w i = w.1.getD 0 z3 := by unfold segB; rw [h, Nat.mod_self]
theorem tmod_nat (i n : Nat) : ((i : Int) + 1).tmod (n : Int) = (((i + 1) % n : Nat) : Int) := by
  rw [show ((i : Int) + 1) = ((i + 1 : Nat) : Int) by omega]
  exact (Int.ofNat_tmod _ _).symm
section
variable {P : Program} {n : Nat} {w0 : World} {O : List Ent} {E : Env} {o : Oper}
theorem yq_loadG {t : TypeId} {x : Operand} {a : Option Addr} {k : Nat} {w : Wr} {m : Nat} {fs : Array Field} (ho : o.op = .load t x) (ht : P.underlying t = some (.struct fs)) (hz : (P.info? t).map (·.size) = some 6) (hx : E.opd x = some (.pointer (some (adr a (k * 6))))) (hs : Sees w0 O a (sl (segK w m))) (hk : k < m) :
    YQ P w0 O E o (.agg #[.float .f32 (segA w k).1, .float .f32 (segA w k).2.1, .float .f32 (segA w k).2.2, .float .f32 (segB w k).1, .float .f32 (segB w k).2.1, .float .f32 (segB w k).2.2]) := by
  have h := sl_take (segK w m) k (by rw [segK_length]; exact hk)
  rw [segK_get w hk] at h
  exact yq_loadS ho ht hz hx hs h rfl rfl
end
theorem wire_len {ws : List Wr} (h : wiresOk ws = true) {k : Nat} (hk : k < ws.length) : 2 ≤ (ws.getD k zw).1.length ∧ (ws.getD k zw).1.length ≤ 48 := by
  unfold wiresOk at h
  rw [Bool.and_eq_true] at h
  have := wire_is (wall_getD.1 h.2 k hk)
  exact ⟨this.1, this.2.1⟩
theorem wires_len {ws : List Wr} (h : wiresOk ws = true) : ws.length ≤ 8 := by
  unfold wiresOk at h
  rw [Bool.and_eq_true, decide_eq_true_eq] at h
  exact h.1
theorem segN_le {w : Wr} : segN w ≤ w.1.length := by unfold segN; split <;> omega
end Go.Proofs.Ytfeciemlhiclbaa


namespace Go.Proofs.Ytfeciemlhiclbaa
open Go.RowKit

section
variable {x : Nat} {ok : Bool} {s : Nat × Nat × Bool}
end
section
variable {ws : List Wr} {vs : List V3} {way : V3}
end
end Go.Proofs.Ytfeciemlhiclbaa


namespace Go.Proofs.Ytfeciemlhiclbaa
open Go.RowKit

def unit3 (v : V3) : V3 := scale3 v (fop .quo .f32 1065353216 (long3 v))
def dirI (ws : List Wr) (p : V3) : V3 := unit3 (fieldI ws p)
def dirOk (ws : List Wr) (p : V3) : Bool := fin3 p && fin3 (dirI ws p)
def dirV (ws : List Wr) (p : V3) : V3 := if dirOk ws p then dirI ws p else z3
def midI (ws : List Wr) (p : V3) (st : Nat) : V3 := add3 p (scale3 (dirI ws p) (fop .mul .f32 1056964608 st))
def endI (ws : List Wr) (p : V3) (st : Nat) : V3 := add3 p (scale3 (dirI ws (midI ws p st)) st)
def stepOk (ws : List Wr) (p : V3) (st : Nat) : Bool := dirOk ws p && dirOk ws (midI ws p st) && fin3 (endI ws p st)
def stepV (ws : List Wr) (p : V3) (st : Nat) : V3 := if stepOk ws p st then endI ws p st else z3
section
variable {ws : List Wr} {p m : V3} {st : Nat}
end

/-! ### the checked step -/
section
variable {ws : List Wr} {p m : V3} {st : Nat}
end
end Go.Proofs.Ytfeciemlhiclbaa


namespace Go.Proofs.Ytfeciemlhiclbaa
open Go.RowKit

end Go.Proofs.Ytfeciemlhiclbaa


namespace Go.Proofs.Ytfeciemlhiclbaa
open Go.RowKit

/-- The double x stands for a number below 2 ^ (t + 1). -/
def small (t : Int) (x : Nat) : Prop := ∃ s m e, FloatKind.f64.decode x = .number s m e ∧ e + (m.log2 : Int) ≤ t
theorem lt_log2 (m : Nat) : m < 2 ^ (m.log2 + 1) := Nat.lt_log2_self
theorem log2_mono {a b : Nat} (h : a ≤ b) : a.log2 ≤ b.log2 := by
  rcases Nat.eq_zero_or_pos a with h0 | h0
  · subst h0; simp
  · have := Nat.log2_self_le (n := a) (by omega)
    have h2 : 2 ^ a.log2 < 2 ^ (b.log2 + 1) := Nat.lt_of_le_of_lt this (Nat.lt_of_le_of_lt h (lt_log2 b))
    have := (Nat.pow_lt_pow_iff_right (a := 2) (by decide)).1 h2
    omega
/-- A number by the scale. -/
def qf (s x : Nat) : Nat := fround (fop .mul .f64 4674736138332667904 (fop .quo .f64 (up x) (up s)))
end Go.Proofs.Ytfeciemlhiclbaa


namespace Go.Proofs.Ytfeciemlhiclbaa
open Go.RowKit

/-- The address of a part. -/
def slA (a : Option Addr) (l mm z : Nat) : Option Addr := if mm = l then a else a.map (·.add (l * z))
theorem Cl.part {w : World} {a : Option Addr} {us : List Value} (h : Cl w a us) {l hh mm z : Nat} (h1 : hh ≤ mm) : Cl w (slA a l mm z) ((us.drop (l * z)).take ((hh - l) * z)) := by
  by_cases hm : mm = l
  · have : hh - l = 0 := by omega
    rw [this, Nat.zero_mul, List.take_zero]
    exact .inl rfl
  · unfold slA
    rw [if_neg hm]
    rcases h with h | ⟨p, rfl, hsp, h⟩
    · subst h; simp; exact .inl rfl
    · refine .inr ⟨p.add (l * z), rfl, ?_, fun i u hu => ?_⟩
      · rw [adr_add hsp]; rfl
      · rw [List.getElem?_take] at hu
        split at hu
        · rw [List.getElem?_drop] at hu
          obtain ⟨v, hv, he⟩ := h _ _ hu
          refine ⟨v, ?_, he⟩
          rw [adr_add hsp]
          simp only [adr]
          rw [show p.off + l * z + i = p.off + (l * z + i) by omega]
          exact hv
        · cases hu
theorem Sees.part {w0 : World} {O : List Ent} {a : Option Addr} {us : List Value} (h : Sees w0 O a us) {l hh mm z : Nat} (h1 : hh ≤ mm) : Sees w0 O (slA a l mm z) ((us.drop (l * z)).take ((hh - l) * z)) := fun w hw => (h w hw).part h1

section
variable {P : Program} {n : Nat} {w0 : World} {O : List Ent} {E : Env} {o : Oper}

/-- A bound of a part: none, or a number. -/
def OptI (E : Env) (x : Option Operand) (d v : Nat) : Prop := (x = none ∧ v = d) ∨ ∃ y k, x = some y ∧ E.opd y = some (.int k (v : Int))
theorem OptI.no {d : Nat} : OptI E none d d := .inl ⟨rfl, rfl⟩
theorem OptI.at {y : Operand} {k : IntKind} {i : Int} {d v : Nat} (h : E.opd y = some (.int k i)) (hi : i = (v : Int)) : OptI E (some y) d v := .inr ⟨y, k, rfl, by rw [h, hi]⟩

/-- A row of cells is written into a block that is known. -/
theorem Hp.write {A B : List Ent} {a : Option Addr} {us : List Value} {cap : Nat} {ty : TypeId} {w : World} (hw : Hp w0 (A ++ ⟨a, us, cap, ty⟩ :: B) w) (vs : List Value) (k : Nat) (hs : vs.all scal = true) (hk : k + vs.length ≤ us.length) (hne : vs ≠ []) :
    ∃ w', (storeCells (adr a k) vs).run P w = .ok () w' ∧ Hp w0 (A ++ ⟨a, setAt us k (vs.map cn), cap, ty⟩ :: B) w' := by
  have hent := hw.ents ⟨a, us, cap, ty⟩ (by simp)
  have hl : 0 < vs.length := List.length_pos_iff.2 hne
  have hcap : cap ≠ 0 := by
    rcases hent with h | ⟨_, _, _, _, _, _, h5, _⟩
    · have := h.1; simp only at this; subst this; simp only [List.length_nil] at hk; omega
    · simp only at h5; omega
  obtain ⟨b0, hb0, hge⟩ := hent.addr hcap
  obtain ⟨b, w', r1, r2, r3, r4⟩ := run_storeCells_ent (P := P) vs us 0 k w a cap ty hs (by omega) hent
  have hbb : b = b0 := by
    have := r2 hne
    simp only at hb0
    rw [this] at hb0
    simpa using hb0
  subst hbb
  refine ⟨w', r1, ?_⟩
  simp only [Nat.add_zero] at r4
  exact Hp.turn hw (fun _ => ⟨_, hb0, rfl⟩) hge (fun h => absurd h hcap) r3 r4 (fun _ p hp => .inl (by simp only at hp hb0; rw [hb0] at hp; cases hp; rfl))

/-! ### bits of unsigned numbers -/
/-! ### parts of a block of the call's own -/
theorem Sees.take {a : Option Addr} {us : List Value} (q : Nat) (h : Sees w0 O a us) : Sees w0 O a (us.take q) := fun w hw => (h w hw).sub _ (fun i u hu => by
  rw [List.getElem?_take] at hu
  split at hu
  · exact hu
  · cases hu)
theorem Sees.drop {b : Nat} {us : List Value} (q : Nat) (h : Sees w0 O (some ⟨b, 0, none⟩) us) : Sees w0 O (some (adr (some ⟨b, 0, none⟩) q)) (us.drop q) := fun w hw => by
  rcases h w hw with h | ⟨p, hp, hsp, h⟩
  · subst h; simp; exact .inl rfl
  · cases hp
    refine .inr ⟨_, rfl, rfl, fun i u hu => ?_⟩
    rw [List.getElem?_drop] at hu
    obtain ⟨v, hv, he⟩ := h _ _ hu
    refine ⟨v, ?_, he⟩
    simp only [adr, Nat.zero_add] at hv ⊢
    exact hv
/-- A block that is known lies at the head of a block. -/
theorem VX.addr {a : Option Addr} {us : List Value} {cap : Nat} {ty : TypeId} {R : Act → World → Prop} (hm : (⟨a, us, cap, ty⟩ : Ent) ∈ O) (hc : us ≠ []) (h : ∀ b, a = some ⟨b, 0, none⟩ → us.length ≤ cap → VX n w0 O E R) : VX n w0 O E R := by
  intro act w ha hw
  rcases hw.ents _ hm with h1 | ⟨b, c, h1, _, _, _, h5, _⟩
  · exact absurd h1.1 hc
  · exact h b h1 h5 act w ha hw
end
end Go.Proofs.Ytfeciemlhiclbaa


namespace Go.Proofs.Ytfeciemlhiclbaa
open Go.RowKit

/-- bytes in memory; a text of bytes -/
def bl (bs : List Int) : List Value := bs.map (Value.int .u8)
def stb (bs : List Int) : ByteArray := ⟨(bs.map fun n => UInt8.ofNat n.toNat).toArray⟩
theorem bl_length (bs : List Int) : (bl bs).length = bs.length := by simp [bl]
/-- two texts compared -/
def scmp (op : BinOp) (a b : ByteArray) : Bool := match op with | .eql => a.toList == b.toList | _ => !(a.toList == b.toList)
@[simp] theorem scmp_ne_self (a : ByteArray) : scmp .neq a a = false := by simp [scmp]
@[simp] theorem scmp_eq_self (a : ByteArray) : scmp .eql a a = true := by simp [scmp]
section
variable {P : Program} {w0 : World} {O : List Ent} {E : Env} {o : Oper}
end
end Go.Proofs.Ytfeciemlhiclbaa


namespace Go.Proofs.Ytfeciemlhiclbaa
open Go.RowKit

def szOk (wi hi de : Int) : Bool := decide (1 ≤ wi ∧ wi ≤ 216) && decide (1 ≤ hi ∧ hi ≤ 216) && decide (1 ≤ de ∧ de ≤ 216) && decide (wi * hi * de ≤ 216)
def meshOk (f : V3) (st : Nat) (wi hi de : Int) (n : Nat) : Bool := fin3 f && above st && szOk wi hi de && decide ((n : Int) = wi * hi * de)
section
variable {wi hi de : Int} {f : V3} {st n : Nat}
theorem mesh_mul (h1 : decide (1 ≤ wi ∧ wi ≤ 216) = true) (h2 : decide (1 ≤ hi ∧ hi ≤ 216) = true) (h3 : decide (1 ≤ de ∧ de ≤ 216) = true) : (1 ≤ wi * hi ∧ wi * hi ≤ 46656) ∧ 1 ≤ wi * hi * de ∧ wi * hi * de ≤ 10077696 := by
  rw [decide_eq_true_eq] at h1 h2 h3
  obtain ⟨W, rfl⟩ : ∃ W : Nat, wi = W := ⟨wi.toNat, by omega⟩
  obtain ⟨H, rfl⟩ : ∃ H : Nat, hi = H := ⟨hi.toNat, by omega⟩
  obtain ⟨D, rfl⟩ : ∃ D : Nat, de = D := ⟨de.toNat, by omega⟩
  have a1 : 1 * 1 ≤ W * H := Nat.mul_le_mul (by omega) (by omega)
  have a2 : W * H ≤ 216 * 216 := Nat.mul_le_mul (by omega) (by omega)
  have a3 : 1 * 1 ≤ W * H * D := Nat.mul_le_mul (by omega) (by omega)
  have a4 : W * H * D ≤ 46656 * 216 := Nat.mul_le_mul (by omega) (by omega)
  have e1 : (W : Int) * H = ((W * H : Nat) : Int) := (Int.natCast_mul W H).symm
  have e2 : (W : Int) * H * D = ((W * H * D : Nat) : Int) := by rw [Int.natCast_mul, Int.natCast_mul]
  rw [e2, e1]
  generalize W * H * D = p at *
  generalize W * H = q at *
  omega
theorem szOk_is (h : szOk wi hi de = true) : ∃ W H D : Nat, wi = W ∧ hi = H ∧ de = D ∧ 1 ≤ W ∧ 1 ≤ H ∧ 1 ≤ D ∧ W ≤ 216 ∧ H ≤ 216 ∧ D ≤ 216 ∧ W * H * D ≤ 216 := by
  unfold szOk at h
  simp only [Bool.and_eq_true, decide_eq_true_eq] at h
  obtain ⟨⟨⟨h1, h2⟩, h3⟩, h4⟩ := h
  obtain ⟨W, rfl⟩ : ∃ W : Nat, wi = W := ⟨wi.toNat, by omega⟩
  obtain ⟨H, rfl⟩ : ∃ H : Nat, hi = H := ⟨hi.toNat, by omega⟩
  obtain ⟨D, rfl⟩ : ∃ D : Nat, de = D := ⟨de.toNat, by omega⟩
  exact ⟨W, H, D, rfl, rfl, rfl, by omega, by omega, by omega, by omega, by omega, by omega, by
    rw [show (W : Int) * H * D = ((W * H * D : Nat) : Int) by rw [Int.natCast_mul, Int.natCast_mul]] at h4
    generalize W * H * D = p at *
    omega⟩
theorem szOk_no1 (h : decide (1 ≤ wi ∧ wi ≤ 216) = false) : false = szOk wi hi de := by unfold szOk; rw [h]; rfl
theorem szOk_no2 (h : decide (1 ≤ hi ∧ hi ≤ 216) = false) : false = szOk wi hi de := by unfold szOk; rw [h, Bool.and_false]; rfl
theorem szOk_no3 (h : decide (1 ≤ de ∧ de ≤ 216) = false) : false = szOk wi hi de := by unfold szOk; rw [h, Bool.and_false]; rfl
theorem szOk_last (h1 : decide (1 ≤ wi ∧ wi ≤ 216) = true) (h2 : decide (1 ≤ hi ∧ hi ≤ 216) = true) (h3 : decide (1 ≤ de ∧ de ≤ 216) = true) : icmp .leq (wi * hi * de) 216 = szOk wi hi de := by unfold szOk; rw [h1, h2, h3]; rfl
theorem szOk_yes (h1 : decide (1 ≤ wi ∧ wi ≤ 216) = true) (h2 : decide (1 ≤ hi ∧ hi ≤ 216) = true) (h3 : decide (1 ≤ de ∧ de ≤ 216) = true) (h4 : wi * hi * de ≤ 216) : szOk wi hi de = true := by rw [← szOk_last h1 h2 h3]; exact decide_eq_true h4
theorem szOk_no4 (h4 : 216 < wi * hi * de) : szOk wi hi de = false := by unfold szOk; rw [show decide (wi * hi * de ≤ 216) = false from decide_eq_false (by omega), Bool.and_false]
theorem meshOk_no1 (h : fin3 f = false) : false = meshOk f st wi hi de n := by unfold meshOk; rw [h]; rfl
theorem meshOk_no2 (h : above st = false) : false = meshOk f st wi hi de n := by unfold meshOk; rw [h, Bool.and_false]; rfl
theorem meshOk_no3 (h : szOk wi hi de = false) : false = meshOk f st wi hi de n := by unfold meshOk; rw [h, Bool.and_false]; rfl
theorem meshOk_last (h1 : fin3 f = true) (h2 : above st = true) (h3 : szOk wi hi de = true) : icmp .eql (n : Int) (wi * hi * de) = meshOk f st wi hi de n := by
  unfold meshOk; rw [h1, h2, h3]
  show ((n : Int) == wi * hi * de) = (true && decide ((n : Int) = wi * hi * de))
  rw [Bool.true_and, Bool.eq_iff_iff, beq_iff_eq, decide_eq_true_eq]
theorem meshOk_is (h : meshOk f st wi hi de n = true) : fin3 f = true ∧ above st = true ∧ szOk wi hi de = true ∧ (n : Int) = wi * hi * de := by
  unfold meshOk at h
  simp only [Bool.and_eq_true, decide_eq_true_eq] at h
  exact ⟨h.1.1.1, h.1.1.2, h.1.2, h.2⟩
/-- A mesh that is valid, its sizes as natural numbers. -/
theorem mesh_open (h : meshOk f st wi hi de n = true) : ∃ W H D : Nat, wi = W ∧ hi = H ∧ de = D ∧ (1 ≤ W ∧ 1 ≤ H ∧ 1 ≤ D) ∧ (W ≤ 216 ∧ H ≤ 216 ∧ D ≤ 216) ∧ W * H * D ≤ 216 ∧ n = W * H * D := by
  obtain ⟨_, _, h3, h4⟩ := meshOk_is h
  obtain ⟨W, H, D, rfl, rfl, rfl, a1, a2, a3, a4, a5, a6, a7⟩ := szOk_is h3
  exact ⟨W, H, D, rfl, rfl, rfl, ⟨a1, a2, a3⟩, ⟨a4, a5, a6⟩, a7, by
    rw [show (W : Int) * H * D = ((W * H * D : Nat) : Int) by rw [Int.natCast_mul, Int.natCast_mul]] at h4
    exact Int.ofNat.inj h4⟩
end

/-! ### nodes in order -/
def nd (W H x y z : Nat) : Nat := x + W * (y + H * z)
section
variable {W H D x y z j : Nat}
theorem nd_facts (hx : x < W) (hy : y < H) (hz : z < D) (hb : W * H * D ≤ 216) : H * z ≤ 216 ∧ y + H * z ≤ 216 ∧ W * (y + H * z) ≤ 216 ∧ nd W H x y z < W * H * D := by
  have h1 : y + H * z < H * D := by
    have : H * z + H ≤ H * D := by rw [← Nat.mul_succ]; exact Nat.mul_le_mul_left _ hz
    omega
  have h2 : x + W * (y + H * z) < W * (H * D) := by
    have : W * (y + H * z) + W ≤ W * (H * D) := by rw [← Nat.mul_succ]; exact Nat.mul_le_mul_left _ h1
    omega
  have h3 : H * D ≤ W * (H * D) := Nat.le_mul_of_pos_left _ (by omega)
  rw [← Nat.mul_assoc] at h2 h3
  refine ⟨by omega, by omega, by omega, h2⟩
theorem nd_div (hx : x < W) (q : Nat) : (x + W * q) / W = q ∧ (x + W * q) % W = x := by
  have hW : 0 < W := by omega
  rw [Nat.add_mul_div_left _ _ hW, Nat.div_eq_of_lt hx, Nat.add_mul_mod_self_left, Nat.mod_eq_of_lt hx, Nat.zero_add]
  exact ⟨rfl, rfl⟩
theorem nd_x (hx : x < W) : nd W H x y z % W = x := (nd_div hx _).2
theorem nd_y (hx : x < W) (hy : y < H) : nd W H x y z / W % H = y := by unfold nd; rw [(nd_div hx _).1]; exact (nd_div hy _).2
theorem nd_z (hx : x < W) (hy : y < H) : nd W H x y z / W / H = z := by unfold nd; rw [(nd_div hx _).1]; exact (nd_div hy _).1
theorem nd_row (h : W * y ≤ j) (h2 : j < W * (y + 1)) : j / W = y := by
  rw [Nat.mul_succ] at h2
  obtain ⟨x, rfl⟩ : ∃ x, j = x + W * y := ⟨j - W * y, by omega⟩
  exact (nd_div (by omega) y).1
theorem nd_end : W + W * (y + H * z) = W * (y + 1 + H * z) := by rw [show y + 1 + H * z = (y + H * z) + 1 by omega, Nat.mul_succ]; omega
theorem nd_endy : W * (H + H * z) = W * (0 + H * (z + 1)) := by rw [Nat.mul_succ, Nat.zero_add, Nat.add_comm]
theorem nd_all : W * (0 + H * D) = W * H * D := by rw [Nat.zero_add, Nat.mul_assoc]
end

section
variable {P : Program} {n : Nat} {w0 : World} {O : List Ent} {E : Env} {o : Oper}
/-- A call of a function value that turns what the call owns. -/
theorem yc_callP {callee : Operand} {args : Array Operand} {ts : Array TypeId} {f : FuncId} {us : List Value} {cs : Array Value} {X : Type} {u : X → Value} {M F0 : List Ent} {M' : X → List Ent} (ho : o.op = .call ⟨.value callee, args, ts⟩) (hk : Known P f) (hc : E.opd callee = some (.func (.func f) #[] cs)) (hx : Opds E args.toList us) (hp : Pick O M F0)
    (h : Mut P f (us ++ cs.toList.map cn) w0 M u M') : YC P w0 O E o u (fun x => M' x ++ F0) := by
  intro ρ w F hE hw
  rw [run_call ho hk hc hE]
  have hw' : Hp w0 ((F ++ F0) ++ M) w := by
    rw [List.append_assoc]
    exact hw.perm' (List.Perm.append_left F hp.perm)
  refine (h w (F ++ F0) hw' _ (args_map ho hx hE)).mono fun e w' ⟨v, h1, x, h2, h3⟩ => ⟨v, h1, x, h2, ?_⟩
  rw [List.append_assoc] at h3
  exact h3.perm' (List.Perm.append_left F List.perm_append_comm)
theorem yr_addN {t ty : TypeId} {x y : Operand} {a b : Int} (r : Nat) (ho : o.op = .binOp .add t x y ty) (hx : E.opd x = some (.int .i64 a)) (hy : E.opd y = some (.int .i64 b)) (h : a + b = (r : Int)) (hb : r ≤ 9223372036854775807) : YR P E o (.int .i64 (r : Int)) := by
  rw [← h]
  exact yr_int ho hx hy (.inl ⟨rfl, wrap_in (by omega)⟩)
theorem yr_subN {t ty : TypeId} {x y : Operand} {a b : Int} (r : Nat) (ho : o.op = .binOp .sub t x y ty) (hx : E.opd x = some (.int .i64 a)) (hy : E.opd y = some (.int .i64 b)) (h : a - b = (r : Int)) (hb : r ≤ 9223372036854775807) : YR P E o (.int .i64 (r : Int)) := by
  rw [← h]
  exact yr_int ho hx hy (.inr (.inl ⟨rfl, wrap_in (by omega)⟩))
theorem yr_func3 {f : Fn} {c1 c2 c3 : Operand} {p1 p2 p3 : Option Addr} (ho : o.op = .makeFunc f #[] #[c1, c2, c3]) (h1 : E.opd c1 = some (.pointer p1)) (h2 : E.opd c2 = some (.pointer p2)) (h3 : E.opd c3 = some (.pointer p3)) : YR P E o (.func f #[] #[.pointer p1, .pointer p2, .pointer p3]) :=
  yr_func ho (fun ρ hE => by simp [cn_pointer (hE.get (x := c1) (by simp [ho, Op.operands]) h1), cn_pointer (hE.get (x := c2) (by simp [ho, Op.operands]) h2), cn_pointer (hE.get (x := c3) (by simp [ho, Op.operands]) h3)]) (fun _ => rfl)
theorem yr_func4 {f : Fn} {c1 c2 c3 c4 : Operand} {p1 p2 p3 p4 : Option Addr} (ho : o.op = .makeFunc f #[] #[c1, c2, c3, c4]) (h1 : E.opd c1 = some (.pointer p1)) (h2 : E.opd c2 = some (.pointer p2)) (h3 : E.opd c3 = some (.pointer p3)) (h4 : E.opd c4 = some (.pointer p4)) : YR P E o (.func f #[] #[.pointer p1, .pointer p2, .pointer p3, .pointer p4]) :=
  yr_func ho (fun ρ hE => by simp [cn_pointer (hE.get (x := c1) (by simp [ho, Op.operands]) h1), cn_pointer (hE.get (x := c2) (by simp [ho, Op.operands]) h2), cn_pointer (hE.get (x := c3) (by simp [ho, Op.operands]) h3), cn_pointer (hE.get (x := c4) (by simp [ho, Op.operands]) h4)]) (fun _ => rfl)
theorem Pick.e4 {O1 O2 O3 F : List Ent} {e1 e2 e3 e4 : Ent} (h1 : Rem O [e1] O1) (h2 : Rem O1 [e2] O2) (h3 : Rem O2 [e3] O3) (h4 : Rem O3 [e4] F) : Pick O [e1, e2, e3, e4] F := Pick.take h1 (Pick.take h2 (Pick.take h3 (Pick.take h4 .nil)))
theorem Hp.rot {w : World} {A F : List Ent} {b : Ent} (hw : Hp w0 (A ++ (b :: (F ++ []))) w) : Hp w0 (b :: (F ++ A)) w := by
  rw [List.append_nil] at hw
  exact hw.perm' List.perm_append_comm
end

/-! ### places, values -/
def place3 (f : V3) (st x y z : Nat) : V3 := add3 f (fop .mul .f32 x st, fop .mul .f32 y st, fop .mul .f32 z st)
def mval (vs : List V3) (W H x y z : Nat) : V3 := vs.getD (nd W H x y z) z3
/-- What is told of the nodes in the inside, up to the k-th node. -/
def inK (W H D k : Nat) : Bool := decide (1 ≤ k % W ∧ k % W + 1 < W ∧ 1 ≤ k / W % H ∧ k / W % H + 1 < H ∧ 1 ≤ k / W / H ∧ k / W / H + 1 < D)
def srcAt (vs : List V3) (W H tw x y z : Nat) : Nat :=
  fop .add .f32 (fop .add .f32 (fop .add .f32 0 (fop .quo .f32 (fop .sub .f32 (mval vs W H (x + 1) y z).1 (mval vs W H (x - 1) y z).1) tw)) (fop .quo .f32 (fop .sub .f32 (mval vs W H x (y + 1) z).2.1 (mval vs W H x (y - 1) z).2.1) tw)) (fop .quo .f32 (fop .sub .f32 (mval vs W H x y (z + 1)).2.2 (mval vs W H x y (z - 1)).2.2) tw)
def srcU (vs : List V3) (W H D tw : Nat) : Nat → List Nat
  | 0 => []
  | k + 1 => if inK W H D k then srcU vs W H D tw k ++ [srcAt vs W H tw (k % W) (k / W % H) (k / W / H)] else srcU vs W H D tw k
section
variable {vs : List V3} {W H D tw x y z j k a b : Nat}
theorem srcU_in (hx : x < W) (hy : y < H) (h : 1 ≤ x ∧ x + 1 < W ∧ 1 ≤ y ∧ y + 1 < H ∧ 1 ≤ z ∧ z + 1 < D) : srcU vs W H D tw (nd W H x y z + 1) = srcU vs W H D tw (nd W H x y z) ++ [srcAt vs W H tw x y z] := by
  rw [srcU, if_pos (by unfold inK; rw [nd_x hx, nd_y hx hy, nd_z hx hy]; exact decide_eq_true h), nd_x hx, nd_y hx hy, nd_z hx hy]
theorem srcU_out (hx : x < W) (hy : y < H) (h : ¬ (1 ≤ x ∧ x + 1 < W ∧ 1 ≤ y ∧ y + 1 < H ∧ 1 ≤ z ∧ z + 1 < D)) : srcU vs W H D tw (nd W H x y z + 1) = srcU vs W H D tw (nd W H x y z) := by
  rw [srcU, if_neg (by unfold inK; rw [nd_x hx, nd_y hx hy, nd_z hx hy]; rw [decide_eq_true_eq]; exact h)]
theorem srcU_length : ∀ k, (srcU vs W H D tw k).length ≤ k
  | 0 => Nat.le_refl _
  | k + 1 => by
    have := srcU_length k
    rw [srcU]; split
    · simp; omega
    · omega
end
/-- The sources. -/
def srcTw (st : Nat) : Nat := fop .mul .f32 1073741824 st
def srcL (st : Nat) (wi hi de : Int) (vs : List V3) : List Nat := srcU vs wi.toNat hi.toNat de.toNat (srcTw st) (wi.toNat * hi.toNat * de.toNat)
def srcOk (f : V3) (st : Nat) (wi hi de : Int) (vs : List V3) : Bool := meshOk f st wi hi de vs.length && (srcL st wi hi de vs).all fin
def srcD (f : V3) (st : Nat) (wi hi de : Int) (vs : List V3) : List Nat := if srcOk f st wi hi de vs then srcL st wi hi de vs else []
section
variable {f : V3} {st : Nat} {wi hi de : Int} {vs : List V3}
theorem srcOk_yes (h : meshOk f st wi hi de vs.length = true) (h2 : (srcL st wi hi de vs).all fin = true) : srcOk f st wi hi de vs = true := by unfold srcOk; rw [h, h2]; rfl
theorem srcOk_no1 (h : meshOk f st wi hi de vs.length = false) : srcOk f st wi hi de vs = false := by unfold srcOk; rw [h]; rfl
theorem srcOk_no2 (h : (srcL st wi hi de vs).all fin = false) : srcOk f st wi hi de vs = false := by unfold srcOk; rw [h, Bool.and_false]
theorem srcD_yes (h : srcOk f st wi hi de vs = true) : srcD f st wi hi de vs = srcL st wi hi de vs := by unfold srcD; rw [h]; rfl
theorem srcD_no (h : srcOk f st wi hi de vs = false) : srcD f st wi hi de vs = [] := by unfold srcD; rw [h]; rfl
end
end Go.Proofs.Ytfeciemlhiclbaa


namespace Go.Proofs.Ytfeciemlhiclbaa
open Go.RowKit

theorem fin_rng {x : Nat} (h : fin x = true) : rng Ieee.single x < Ieee.single.infRung := by
  rcases Nat.lt_or_ge (rng Ieee.single x) Ieee.single.infRung with hl | hl
  · exact hl
  · exfalso
    have hq : fop .sub .f32 x x = qn .f32 := by
      cases hn : fnan .f32 x
      · have hi : Ieee.single.read x = .infinity (sgn Ieee.single x) := read_inf .f32 (Nat.le_antisymm (rng_le hn) hl)
        unfold fop floatBits Ieee.Format.sub
        simp only [show FloatKind.f32.format = Ieee.single from rfl, hi]
        generalize sgn Ieee.single x = s
        cases s <;> decide
      · simp [fop, floatBits_nan_left hn]
    unfold fin at h
    rw [hq] at h
    revert h
    decide
theorem fin_nan {x : Nat} (h : fin x = true) : fnan .f32 x = false := by
  rw [fnan_rng]
  have := fin_rng h
  exact decide_eq_false (by show ¬ Ieee.single.infRung < rng Ieee.single x; omega)
/-- What is not below zero, a number. -/
def pos (s : Nat) : Prop := rng Ieee.single s < Ieee.single.infRung ∧ sgn Ieee.single s = false
/-- The greater of what it was and the number without its sign. -/
def scN (s x : Nat) : Nat := if fcmp .gtr .f32 (fabs .f32 x) s then fabs .f32 x else s
section
variable {P : Program} {E : Env} {o : Oper}
end
end Go.Proofs.Ytfeciemlhiclbaa


namespace Go.Proofs.Ytfeciemlhiclbaa
open Go.RowKit

/-! ### bytes -/
def w8 (i : Int) : Int := IntKind.u8.wrap i
def four (x : Nat) : List Int := [w8 (x : Int), w8 ((x / 256 : Nat) : Int), w8 ((x / 65536 : Nat) : Int), w8 ((x / 16777216 : Nat) : Int)]
/-! ### the text of a mesh -/
def num (vs : List V3) (k : Nat) : Nat := if k % 3 = 0 then (vs.getD (k / 3) z3).1 else if k % 3 = 1 then (vs.getD (k / 3) z3).2.1 else (vs.getD (k / 3) z3).2.2
def scU (vs : List V3) : Nat → Nat
  | 0 => 0
  | k + 1 => scN (scU vs k) (num vs k)
def allF (vs : List V3) : Nat → Bool
  | 0 => true
  | k + 1 => allF vs k && fin (num vs k)
def qI (s x : Nat) : Int := (floatToIntVal .f64 (qf s x) .i64).getD 0
def qz (s x : Nat) : Int := if fcmp .gtr .f32 s 0 then qI s x else 0
def bodyU (vs : List V3) (s : Nat) : Nat → List Int
  | 0 => []
  | k + 1 => bodyU vs s k ++ [w8 (qz s (num vs k)), w8 ((qz s (num vs k)).fdiv 256)]
def topL (f : V3) (st : Nat) (wi hi de : Int) (s : Nat) : List Int := [77, 83, 72, 49] ++ [w8 wi, w8 hi, w8 de] ++ four f.1 ++ four f.2.1 ++ four f.2.2 ++ four st ++ four s
def pkL (f : V3) (st : Nat) (wi hi de : Int) (vs : List V3) : List Int := topL f st wi hi de (scU vs (vs.length * 3)) ++ bodyU vs (scU vs (vs.length * 3)) (vs.length * 3)
section
variable {vs : List V3} {k j s : Nat}
end
def pkOk (f : V3) (st : Nat) (wi hi de : Int) (vs : List V3) : Bool := meshOk f st wi hi de vs.length && allF vs (vs.length * 3)
def pkT (f : V3) (st : Nat) (wi hi de : Int) (vs : List V3) : ByteArray := if pkOk f st wi hi de vs then stb (pkL f st wi hi de vs) else ⟨#[]⟩
section
variable {f : V3} {st : Nat} {wi hi de : Int} {vs : List V3}
end
/-! ### words for the walks -/
section
variable {vs : List V3} {k i j p s : Nat}
end
theorem Pick.p3 {O1 O2 O F : List Ent} {e1 e2 e3 : Ent} (h1 : Rem O [e1] O1) (h2 : Rem O1 [e2] O2) (h3 : Rem O2 [e3] F) : Pick O [e1, e2, e3] F := Pick.take h1 (Pick.take h2 (Pick.take h3 .nil))
end Go.Proofs.Ytfeciemlhiclbaa


namespace Go.Proofs.Ytfeciemlhiclbaa
open Go.RowKit

theorem cut_even_le (s : Bool) {n d q : Nat} (h : n ≤ q * 2 ^ d) : Ieee.Toward.even.cut s n d ≤ q := by
  unfold Ieee.Toward.cut
  simp only [Nat.shiftLeft_eq, Nat.one_mul]
  by_cases hd : d ≤ n.log2 + 2
  · rw [Nat.min_eq_left hd]
    have hp := pow_pos' d
    have hlow : n / 2 ^ d ≤ q := Nat.div_le_of_le_mul (by rw [Nat.mul_comm]; exact h)
    rcases Nat.lt_or_eq_of_le hlow with hlt | heq
    · have : (decide (2 ^ d < 2 * (n % 2 ^ d)) || (2 ^ d == 2 * (n % 2 ^ d) && n / 2 ^ d % 2 == 1)).toNat ≤ 1 := Bool.toNat_le _
      omega
    · have hr : n % 2 ^ d = 0 := by
        have := Nat.div_add_mod n (2 ^ d)
        rw [heq, Nat.mul_comm] at this
        omega
      rw [heq, hr]
      have h1 : decide (2 ^ d < 2 * 0) = false := decide_eq_false (by omega)
      have h2 : (2 ^ d == 2 * 0) = false := by rw [beq_eq_false_iff_ne]; omega
      rw [h1, h2]
      simp
  · rw [Nat.min_eq_right (by omega)]
    have hlt : n < 2 ^ (n.log2 + 2) := Nat.lt_of_lt_of_le (lt_log2 n) (Nat.pow_le_pow_right (by decide) (by omega))
    have h2 : 2 * n < 2 ^ (n.log2 + 2) := by
      have := lt_log2 n
      rw [Nat.pow_succ]
      omega
    rw [Nat.div_eq_of_lt hlt, Nat.mod_eq_of_lt hlt]
    have h3 : decide (2 ^ (n.log2 + 2) < 2 * n) = false := decide_eq_false (by omega)
    have h4 : (2 ^ (n.log2 + 2) == 2 * n) = false := by rw [beq_eq_false_iff_ne]; omega
    rw [h3, h4]
    simp
/-- What is not greater than the number of a word is written as no greater word. -/
theorem nearest_le (f : Ieee.Format) (s : Bool) {m r a b : Nat} {e : Int} (he : e + a = f.leastPlace + b) (h : m * 2 ^ b ≤ units f r * 2 ^ a) : ∃ r', f.nearest s m e = f.word s r' ∧ r' ≤ r := by
  unfold Ieee.Format.nearest
  by_cases hm : m = 0
  · rw [if_pos hm]; exact ⟨0, rfl, Nat.zero_le _⟩
  rw [if_neg hm]
  refine ⟨_, rfl, Nat.le_trans (Nat.min_le_left _ _) ?_⟩
  have hmb : 0 < m * 2 ^ b := Nat.mul_pos (by omega) (pow_pos' b)
  have hu : units f r ≠ 0 := by
    intro h0
    rw [h0, Nat.zero_mul] at h
    omega
  have hl : m.log2 + b ≤ (units f r).log2 + a := by
    have := log2_mono h
    rwa [log2_mul_pow hm b, log2_mul_pow hu a] at this
  have hb : 0 < f.binade := pow_pos' _
  have hbe : f.binade = 2 ^ f.fractionBits := rfl
  have key : ∀ (q t : Nat), m * 2 ^ b ≤ q * 2 ^ t * 2 ^ a → Ieee.Toward.even.cut s (m <<< (e - (f.leastPlace + t)).toNat) ((f.leastPlace + t) - e).toNat ≤ q := by
    intro q t hqt
    rw [Nat.mul_assoc, ← Nat.pow_add] at hqt
    rcases Nat.le_total (t + a) b with hle | hle
    · have e1 : (e - (f.leastPlace + t)).toNat = b - (t + a) := by omega
      have e2 : ((f.leastPlace + t) - e).toNat = 0 := by omega
      rw [e1, e2, cut_zero, shl_eq]
      have : b = (b - (t + a)) + (t + a) := by omega
      rw [this, Nat.pow_add, ← Nat.mul_assoc] at hqt
      exact Nat.le_of_mul_le_mul_right hqt (pow_pos' _)
    · have e1 : (e - (f.leastPlace + t)).toNat = 0 := by omega
      have e2 : ((f.leastPlace + t) - e).toNat = t + a - b := by omega
      have : t + a = (t + a - b) + b := by omega
      rw [this, Nat.pow_add, ← Nat.mul_assoc] at hqt
      have hm' := Nat.le_of_mul_le_mul_right hqt (pow_pos' b)
      rw [e1, e2, shl_eq, Nat.pow_zero, Nat.mul_one]
      exact cut_even_le s hm'
  by_cases hrb : r < f.binade
  · have hur : units f r = r := by unfold units; rw [if_pos hrb]
    have hr0 : r ≠ 0 := by rw [← hur]; exact hu
    have hlg : (units f r).log2 < f.fractionBits := by
      rw [hur]
      exact (Nat.log2_lt hr0).2 hrb
    have hlast : max (e + (m.log2 : Int) - (f.fractionBits : Int)) f.leastPlace = f.leastPlace + ((0 : Nat) : Int) := by omega
    simp only [hlast]
    have hk := key r 0 (by rw [Nat.pow_zero, Nat.mul_one, ← hur]; exact h)
    have e0 : (f.leastPlace + ((0 : Nat) : Int) - f.leastPlace).toNat = 0 := by omega
    rw [e0, Nat.zero_mul, Nat.zero_add]
    exact hk
  · have hq1 : 1 ≤ r / f.binade := (Nat.le_div_iff_mul_le hb).2 (by omega)
    have hmod := Nat.mod_lt r hb
    have hur : units f r = (f.binade + r % f.binade) * 2 ^ (r / f.binade - 1) := by unfold units; rw [if_neg hrb]
    have hqne : f.binade + r % f.binade ≠ 0 := by omega
    have hlg : (units f r).log2 = f.fractionBits + (r / f.binade - 1) := by
      rw [hur, log2_mul_pow hqne]
      congr 1
      rw [Nat.log2_eq_iff hqne]
      rw [Nat.pow_succ, ← hbe]
      omega
    obtain ⟨t, ht⟩ : ∃ t : Nat, max (e + (m.log2 : Int) - (f.fractionBits : Int)) f.leastPlace = f.leastPlace + (t : Int) :=
      ⟨(max (e + (m.log2 : Int) - (f.fractionBits : Int)) f.leastPlace - f.leastPlace).toNat, by omega⟩
    have htT : t ≤ r / f.binade - 1 := by omega
    have hkl := kept_le s (m := m) (f := f.fractionBits) (place := e) (last := max (e + (m.log2 : Int) - (f.fractionBits : Int)) f.leastPlace) (Int.le_max_left _ _)
    simp only [ht] at hkl ⊢
    have e1 : (f.leastPlace + (t : Int) - f.leastPlace).toNat = t := by omega
    rw [e1]
    have e2 := Nat.div_add_mod r f.binade
    rw [Nat.mul_comm] at e2
    rcases Nat.lt_or_eq_of_le htT with hlt | heq
    · have h4 : 2 ^ (f.fractionBits + 1) = 2 * f.binade := by rw [Nat.pow_succ, Nat.mul_comm, hbe]
      rw [h4] at hkl
      have h5 : (t + 2) * f.binade ≤ r / f.binade * f.binade := Nat.mul_le_mul_right _ (by omega)
      rw [Nat.add_mul] at h5
      omega
    · have hk := key (f.binade + r % f.binade) t (by rw [heq, ← hur]; exact h)
      have h5 : (t + 1) * f.binade = r / f.binade * f.binade := by congr 1; omega
      rw [Nat.add_mul, Nat.one_mul] at h5
      omega
end Go.Proofs.Ytfeciemlhiclbaa


namespace Go.Proofs.Ytfeciemlhiclbaa
open Go.RowKit

def r1 : Nat := 4607182418800017408
def u1 : Nat := units Ieee.double r1
theorem units_mono (f : Ieee.Format) {r t : Nat} (h : r ≤ t) : units f r ≤ units f t := by
  have hb : 0 < f.binade := pow_pos' _
  rcases Nat.lt_or_ge t f.binade with ht | ht
  · have hr : r < f.binade := by omega
    unfold units
    rw [if_pos hr, if_pos ht]; exact h
  · obtain ⟨t1, t2⟩ := units_bounds f ht
    rcases Nat.lt_or_ge r f.binade with hr | hr
    · have hur : units f r = r := by unfold units; rw [if_pos hr]
      rw [hur]
      exact Nat.le_trans (Nat.le_of_lt hr) (Nat.le_trans (Nat.le_mul_of_pos_right _ (pow_pos' _)) t1)
    · obtain ⟨s1, s2⟩ := units_bounds f hr
      have hd : r / f.binade ≤ t / f.binade := Nat.div_le_div_right h
      rcases Nat.lt_or_eq_of_le hd with hlt | heq
      · have h3 : f.binade * 2 ^ (r / f.binade) ≤ f.binade * 2 ^ (t / f.binade - 1) := Nat.mul_le_mul_left _ (Nat.pow_le_pow_right (by decide) (by omega))
        omega
      · unfold units
        rw [if_neg (by omega), if_neg (by omega), heq]
        refine Nat.mul_le_mul_right _ ?_
        have e1 := Nat.div_add_mod r f.binade
        have e2 := Nat.div_add_mod t f.binade
        rw [heq] at e1
        omega
end Go.Proofs.Ytfeciemlhiclbaa


namespace Go.Proofs.Ytfeciemlhiclbaa
open Go.RowKit

def rw5 : Nat := 4674736138332667904
end Go.Proofs.Ytfeciemlhiclbaa


namespace Go.Proofs.Ytfeciemlhiclbaa
open Go.RowKit

section
variable {P : Program} {n : Nat} {w0 : World} {O : List Ent} {E : Env} {o : Oper}
theorem extN {args : Array Operand} {ts : Array TypeId} {f : FuncId} {us : List Value} {X : Type} {u : X → Value} {e : Array Value → Sem Value} (ho : o.op = .call ⟨.value (.func f), args, ts⟩) (hk : ExtF P f e) (hx : Opds E args.toList us)
    (h : ∀ (vs : Array Value) (w : World), vs.toList.map cn = us → ∃ x v w', (e vs).run P w = .ok v w' ∧ cn v = u x ∧ Below w.heap.size w w') : YN P w0 O E o u (fun _ => []) := by
  intro ρ w hE hw
  obtain ⟨fn, h1, h2, h3, h4, h5⟩ := hk
  have h2' : ¬ fn.name = "runtime.NumGoroutine" := by simpa using h2
  obtain ⟨x, v, w', g1, g2, g3⟩ := h (args.map ρ ++ #[]) w (args_map' ho hx hE)
  have hc : cn (ρ (.func f)) = .func (.func f) #[] #[] := hE.get (x := .func f) (by simp [ho, Op.operands, Call.operands]) rfl
  have hc' := cn_func hc
  have hr : (execOp ρ o).run P w = .ok (.value v) w' := by
    simp only [Array.append_empty] at g1
    simp [execOp, ho, resolve, hc', Deferred.ofValue, invoke, callFunc, program, Sem.run, h1, h2', h3, h4, h5, g1]
  rw [hr]
  exact ⟨x, g2, g3, (fun _ hf => by cases hf), List.Pairwise.nil⟩
theorem ext_bitsN {vs : Array Value} {w : World} {x : Nat} (h : vs.toList.map cn = [.float .f64 x]) : ∃ (b : {b : Nat // cb .f64 b = x}) (v : Value) (w' : World), (Extern.MathFloatBits.float64bits vs).run P w = .ok v w' ∧ cn v = .int .u64 (b.1 : Int) ∧ Below w.heap.size w w' := by
  obtain ⟨b, rfl, hb⟩ := one_arg h
  exact ⟨⟨b, hb⟩, .int .u64 b, w, rfl, rfl, Below.refl _ _⟩
theorem int_arg {vs : Array Value} {k : IntKind} {x : Int} (h : vs.toList.map cn = [.int k x]) : vs = #[.int k x] := by
  have hl : vs.toList.length = 1 := by have := congrArg List.length h; simpa using this
  obtain ⟨l⟩ := vs
  match l, hl with
  | [v], _ =>
    simp only [List.map_cons, List.map_nil, List.cons.injEq, and_true] at h
    rw [cn_int h]
theorem ext_from64 (vs : Array Value) (w : World) {x : Nat} (h : vs.toList.map cn = [.int .u64 (x : Int)]) : ∃ v w', (Extern.MathFloatBits.float64frombits vs).run P w = .ok v w' ∧ cn v = .float .f64 (cb .f64 x) ∧ Below w.heap.size w w' := by
  rw [int_arg h]
  exact ⟨.float .f64 x, w, rfl, rfl, Below.refl _ _⟩
theorem intBits_63 (x : Nat) : Op.intBits .andNot .u64 (x : Int) 9223372036854775808 = (pure (.int .u64 ((x % 9223372036854775808 : Nat) : Int)) : Sem Value) := by
  have h1 : BitVec.ofInt IntKind.u64.bits (x : Int) = BitVec.ofNat 64 x := by
    show BitVec.ofInt 64 (x : Int) = BitVec.ofNat 64 x
    exact BitVec.ofInt_natCast 64 x
  have h2 : ~~~ BitVec.ofInt IntKind.u64.bits 9223372036854775808 = BitVec.ofNat 64 (2 ^ 63 - 1) := by
    show ~~~ BitVec.ofInt 64 9223372036854775808 = BitVec.ofNat 64 (2 ^ 63 - 1)
    decide
  unfold Op.intBits
  simp only [h1, h2]
  congr 2
  have h3 : (BitVec.ofNat 64 x &&& BitVec.ofNat 64 (2 ^ 63 - 1)).toNat = x % 2 ^ 63 := by
    rw [BitVec.toNat_and, BitVec.toNat_ofNat, BitVec.toNat_ofNat]
    have : (2 ^ 63 - 1) % 2 ^ 64 = 2 ^ 63 - 1 := by decide
    rw [this, Nat.and_two_pow_sub_one_eq_mod]
    omega
  change IntKind.u64.wrap ((BitVec.ofNat 64 x &&& BitVec.ofNat 64 (2 ^ 63 - 1)).toNat : Int) = _
  rw [h3]
  have : x % 2 ^ 63 < 2 ^ 63 := Nat.mod_lt _ (by decide)
  have h4 : IntKind.u64.wrap ((x % 2 ^ 63 : Nat) : Int) = ((x % 2 ^ 63 : Nat) : Int) := IntWalk.u64_in _ (by omega)
  rw [h4]
theorem yr_andNot63 {t ty : TypeId} {x y : Operand} {a : Nat} (ho : o.op = .binOp .andNot t x y ty) (hx : E.opd x = some (.int .u64 (a : Int))) (hy : E.opd y = some (.int .u64 9223372036854775808)) : YR P E o (.int .u64 ((a % 9223372036854775808 : Nat) : Int)) := yr_of fun ρ w hE => by
  have h1 := cn_int (hE.get (x := x) (by simp [ho, Op.operands]) hx)
  have h2 := cn_int (hE.get (x := y) (by simp [ho, Op.operands]) hy)
  exact ⟨.int .u64 ((a % 9223372036854775808 : Nat) : Int), by simp [execOp, ho, h1, h2, eqGuard, binOp, intBits_63], rfl⟩
end

end Go.Proofs.Ytfeciemlhiclbaa


namespace Go.Proofs.Ytfeciemlhiclbaa
open Go.RowKit

/-- the byte at a place -/
def sb (s : ByteArray) (i : Nat) : Nat := ((s.data[i]?).getD 0).toNat
section
variable {P : Program} {w0 : World} {O : List Ent} {E : Env} {o : Oper}
end
/-! ### numbers of bytes -/
def rd2 (s : ByteArray) (p : Nat) : Nat := sb s p + sb s (p + 1) * 256
def rd4 (s : ByteArray) (p : Nat) : Nat := sb s p + sb s (p + 1) * 256 + sb s (p + 2) * 65536 + sb s (p + 3) * 16777216
end Go.Proofs.Ytfeciemlhiclbaa


namespace Go.Proofs.Ytfeciemlhiclbaa
open Go.RowKit

/-- A number that is unpacked, before it is narrowed. -/
def unX (s : Nat) (q : Int) : Nat := fop .mul .f64 (up s) (fop .quo .f64 (FloatKind.f64.nearest q) rw5)
end Go.Proofs.Ytfeciemlhiclbaa


namespace Go.Proofs.Ytfeciemlhiclbaa
open Go.RowKit

section
variable {P : Program} {w0 : World} {O : List Ent} {E : Env} {o : Oper}
end
end Go.Proofs.Ytfeciemlhiclbaa


namespace Go.Proofs.Ytfeciemlhiclbaa
open Go.RowKit

section
variable {f : V3} {st : Nat} {wi hi de : Int} {vs : List V3} {k : Nat}
end
/-- sixteen bits as a number with a sign -/
def q16 (n : Nat) : Int := if n ≤ 32767 then (n : Int) else (n : Int) - 65536
end Go.Proofs.Ytfeciemlhiclbaa


namespace Go.Proofs.Ytfeciemlhiclbaa
open Go.RowKit

end Go.Proofs.Ytfeciemlhiclbaa


namespace Go.Proofs.Ytfeciemlhiclbaa
open Go.RowKit

section
variable {f : V3} {st : Nat} {wi hi de : Int} {vs us : List V3} {k : Nat} {s : ByteArray}
end
end Go.Proofs.Ytfeciemlhiclbaa


namespace Go.Proofs.Ytfeciemlhiclbaa
open Go.RowKit

/-- The k-th number of a text. -/
def unV (s : ByteArray) (k : Nat) : Nat := fconv .f64 .f32 (unX (rd4 s 23) (q16 (rd2 s (27 + k * 2))))
def unL (s : ByteArray) (n : Nat) : List V3 := (List.range n).map fun i => (unV s (i * 3), unV s (i * 3 + 1), unV s (i * 3 + 2))
section
variable {f : V3} {st : Nat} {wi hi de : Int} {vs : List V3} {s : ByteArray}
/-- the number, a zero without its sign -/
def az (v : Nat) : Nat := if rng Ieee.single v = 0 then 0 else v
end
section
variable {f : V3} {st : Nat} {wi hi de : Int} {vs : List V3} {s : ByteArray} {n : Nat}
end
end Go.Proofs.Ytfeciemlhiclbaa


namespace Go.Proofs.Ytfeciemlhiclbaa
open Go.RowKit

def mshText : ByteArray := ⟨#[77, 83, 72, 49]⟩
def unN (s : ByteArray) : Nat := sb s 4 * sb s 5 * sb s 6
def unF (s : ByteArray) : V3 := (cb .f32 (rd4 s 7), cb .f32 (rd4 s 11), cb .f32 (rd4 s 15))
def unSt (s : ByteArray) : Nat := cb .f32 (rd4 s 19)
def unPk (s : ByteArray) (vs : List V3) : ByteArray := stb (pkL (unF s) (unSt s) (sb s 4 : Int) (sb s 5 : Int) (sb s 6 : Int) vs)
def unMs (s : ByteArray) : Bool := meshOk (unF s) (unSt s) (sb s 4 : Int) (sb s 5 : Int) (sb s 6 : Int) (unN s)
def unPre (s : ByteArray) : Bool := decide (27 ≤ s.size) && scmp .eql (s.extract 0 4) mshText && decide (unN s ≤ 216) && decide (s.size = 27 + 6 * unN s) && unMs s
def unOk (s : ByteArray) : Bool := unPre s && allF (unL s (unN s)) (unN s * 3) && scmp .eql (unPk s (unL s (unN s))) s
def unR (s : ByteArray) : List V3 := if unOk s then unL s (unN s) else []
def unG (s : ByteArray) : V3 := if unOk s then unF s else z3
def unS (s : ByteArray) : Nat := if unOk s then unSt s else 0
def unI (s : ByteArray) (i : Nat) : Int := if unOk s then (sb s i : Int) else 0
section
variable {s : ByteArray} {i : Nat}
end
section
variable {s : ByteArray} {vs : List V3}
end
/-! ### adding to nothing -/
end Go.Proofs.Ytfeciemlhiclbaa


namespace Go.Proofs.Ytfeciemlhiclbaa
open Go.RowKit
section
variable {s : ByteArray} {j k i : Nat} {v w : V3} {vs : List V3}
end
section
variable {P : Program} {w0 : World} {O : List Ent} {E : Env} {o : Oper} {s : ByteArray}
end
theorem Pick.e6 {O O1 O2 O3 O4 O5 F : List Ent} {e1 e2 e3 e4 e5 e6 : Ent} (h1 : Rem O [e1] O1) (h2 : Rem O1 [e2] O2) (h3 : Rem O2 [e3] O3) (h4 : Rem O3 [e4] O4) (h5 : Rem O4 [e5] O5) (h6 : Rem O5 [e6] F) : Pick O [e1, e2, e3, e4, e5, e6] F := Pick.take h1 (Pick.take h2 (Pick.take h3 (Pick.take h4 (Pick.take h5 (Pick.take h6 .nil)))))
/-! ### limits -/
/-- A mesh that may be none. -/
structure MX where
  f : V3
  st : Nat
  wi : Int
  hi : Int
  de : Int
  ar : Option Addr
  cr : Nat
  vs : List V3
def MX.is (s : ByteArray) (x : MX) : Prop := unOk s = true → x.f = unF s ∧ x.st = unSt s ∧ x.wi = (sb s 4 : Int) ∧ x.hi = (sb s 5 : Int) ∧ x.de = (sb s 6 : Int) ∧ x.vs = unL s (unN s)
def MX.v (x : MX) : Value := .agg #[.float .f32 x.f.1, .float .f32 x.f.2.1, .float .f32 x.f.2.2, .float .f32 x.st, .int .i64 x.wi, .int .i64 x.hi, .int .i64 x.de, .slice x.ar x.vs.length x.cr]
def MX.none : MX := ⟨z3, 0, 0, 0, 0, Option.none, 0, []⟩
end Go.Proofs.Ytfeciemlhiclbaa


namespace Go.Proofs.Ytfeciemlhiclbaa
open Go.RowKit

/-- max of two floats -/
def fmx (k : FloatKind) (x y : Nat) : Nat := match k.format.order x y with
  | some .lt => y
  | some .gt => x
  | some .eq => if (k.decode x).neg then y else x
  | none => qn k
def gap64 (a b : Nat) : Nat := fmx .f64 (fop .sub .f64 a b) (fop .sub .f64 b a)
theorem order_isM {k : FloatKind} {x y : Nat} (hx : fnan k x = false) (hy : fnan k y = false) : ∃ o, k.format.order x y = some o := by
  have h1 := read_num hx
  have h2 := read_num hy
  unfold Ieee.Format.order
  cases hr : k.format.read x <;> cases hs : k.format.read y <;> simp_all [Ieee.Datum.order, Ieee.Datum.isNaN]
theorem fmx_or (k : FloatKind) {x y : Nat} (hx : fnan k x = false) (hy : fnan k y = false) : fmx k x y = x ∨ fmx k x y = y := by
  obtain ⟨o, h⟩ := order_isM hx hy
  unfold fmx
  rw [h]
  cases o
  · exact .inr rfl
  · dsimp only; split
    · exact .inr rfl
    · exact .inl rfl
  · exact .inl rfl
theorem fnan_fmx {k : FloatKind} {x y : Nat} (hx : fnan k x = false) (hy : fnan k y = false) : fnan k (fmx k x y) = false := by
  rcases fmx_or k hx hy with h | h <;> rw [h] <;> assumption
theorem max2_run {P : Program} {k : FloatKind} {x y : Nat} (hx : fnan k x = false) (hy : fnan k y = false) (w : World) : (Builtin.max2 (.float k x) (.float k y)).run P w = .ok (.float k (fmx k x y)) w := by
  obtain ⟨o, h⟩ := order_isM hx hy
  unfold Builtin.max2 fmx
  simp only [h]
  cases o <;> rfl
theorem maxs_run {P : Program} {k : FloatKind} : ∀ (ys : List Nat) {x : Nat}, fnan k x = false → (∀ y ∈ ys, fnan k y = false) → ∀ w : World, ((ys.map (Value.float k)).foldlM Builtin.max2 (.float k x)).run P w = .ok (.float k (ys.foldl (fmx k) x)) w ∧ fnan k (ys.foldl (fmx k) x) = false
  | [], x, hx, _, w => ⟨rfl, hx⟩
  | y :: ys, x, hx, hy, w => by
    have h1 := max2_run (P := P) hx (hy y List.mem_cons_self) w
    have h2 := maxs_run (P := P) ys (fnan_fmx hx (hy y List.mem_cons_self)) (fun z hz => hy z (List.mem_cons_of_mem _ hz)) w
    refine ⟨?_, h2.2⟩
    simp only [List.map_cons, List.foldlM_cons, List.foldl_cons, Sem.run_bind, h1, Result.andThen_ok]
    exact h2.1
section
variable {P : Program} {E : Env} {o : Oper}
theorem raw_num {v : Value} {k : FloatKind} {x : Nat} (h : cn v = .float k x) (hx : fnan k x = false) : v = .float k x := by
  obtain ⟨b, h1, h2⟩ := cn_float h
  have : fnan k b = false := by rw [← fnan_cb, h2]; exact hx
  rw [cb_num this] at h2
  rw [h1, h2]
theorem raw_nums {k : FloatKind} : ∀ {vs : List Value} {xs : List Nat}, vs.map cn = xs.map (Value.float k) → (∀ x ∈ xs, fnan k x = false) → vs = xs.map (Value.float k)
  | [], [], _, _ => rfl
  | [], _ :: _, h, _ => by simp at h
  | _ :: _, [], h, _ => by simp at h
  | v :: vs, x :: xs, h, hx => by
    simp only [List.map_cons, List.cons.injEq] at h
    rw [List.map_cons, raw_num h.1 (hx x List.mem_cons_self), raw_nums h.2 fun y hy => hx y (List.mem_cons_of_mem _ hy)]
theorem yr_maxF {k : FloatKind} {args : Array Operand} {ts : Array TypeId} (x : Nat) (ys : List Nat) (ho : o.op = .call ⟨.builtin .max, args, ts⟩) (hx : Opds E args.toList ((x :: ys).map (Value.float k))) (hn : ∀ z ∈ x :: ys, fnan k z = false) : YR P E o (.float k (ys.foldl (fmx k) x)) := yr_of fun ρ w hE => by
  have hm := hx.map hE (fun x hx => by simp [ho, Op.operands, Call.operands]; simpa using hx)
  have hr := raw_nums hm hn
  obtain ⟨h1, h2⟩ := maxs_run (P := P) ys (hn x List.mem_cons_self) (fun z hz => hn z (List.mem_cons_of_mem _ hz)) w
  refine ⟨.float k (ys.foldl (fmx k) x), ?_, ?_⟩
  · rw [List.map_cons] at hr
    simp [execOp, ho, resolve, invoke, builtin, Builtin.max_, hr, h1]
  · simp only [cn, cn1, cn0]
    rw [cb_num h2]
end
end Go.Proofs.Ytfeciemlhiclbaa


namespace Go.Proofs.Ytfeciemlhiclbaa
open Go.RowKit

/-- A quarter: (k - 8) / 4. -/
def qw (k : Nat) : Nat := fop .quo .f32 (FloatKind.f32.nearest ((k : Int) - 8)) 1082130432
def dst (k : Nat) : Nat := if 8 ≤ k then k - 8 else 8 - k
/-- The quarter k, rounded in a mesh whose greatest number is m quarters. -/
def rvw (m k : Nat) : Nat := fconv .f64 .f32 (unX (qw (8 + m)) (q16 ((qz (qw (8 + m)) (qw k) % 65536).toNat)))
def maxn (a b : Nat) : Nat := if a < b then b else a
end Go.Proofs.Ytfeciemlhiclbaa


namespace Go.Proofs.Ytfeciemlhiclbaa
open Go.RowKit

theorem bl_get {bs : List Int} {k : Nat} (h : k < bs.length) : (bl bs)[k]? = some (.int .u8 (bs.getD k 0)) := by
  simp [bl, List.getD, h]
def Bytes (bs : List Int) : Prop := ∀ b ∈ bs, 0 ≤ b ∧ b < 256
theorem byte_get {bs : List Int} {k : Nat} (hb : Bytes bs) (h : k < bs.length) : 0 ≤ bs.getD k 0 ∧ bs.getD k 0 < 256 := by
  have : bs.getD k 0 = bs[k] := by simp [List.getD, h]
  rw [this]; exact hb _ (List.getElem_mem h)
/-- A drawn mesh of quarters. -/
structure DM where
  k : Nat
  W : Nat
  H : Nat
  D : Nat
  ar : Option Addr
  cr : Nat
  vs : List V3
def hqw (k : Nat) : Nat := fop .quo .f32 (FloatKind.f32.nearest ((k : Int) - 4)) 1073741824
def Q3 (v : V3) : Prop := ∃ i j l : Nat, (i < 17 ∧ j < 17 ∧ l < 17) ∧ v = (qw i, qw j, qw l)
def DM.ok (x : DM) : Prop := x.k < 9 ∧ (1 ≤ x.W ∧ x.W ≤ 4) ∧ (1 ≤ x.H ∧ x.H ≤ 4) ∧ (1 ≤ x.D ∧ x.D ≤ 3) ∧ x.vs.length = x.W * x.H * x.D ∧ ∀ v ∈ x.vs, Q3 v
def DM.v (x : DM) : Value := .agg #[.float .f32 (hqw x.k), .float .f32 0, .float .f32 0, .float .f32 1056964608, .int .i64 (x.W : Int), .int .i64 (x.H : Int), .int .i64 (x.D : Int), .slice x.ar x.vs.length x.cr]
/-! ### picking out of what is owned -/
section
variable {P : Program} {w0 : World} {E : Env} {o : Oper}
theorem Pick.cons1 {O O1 M F : List Ent} {e : Ent} (h1 : Rem O [e] O1) (h2 : Pick O1 M F) : Pick O (e :: M) F := Pick.take h1 h2
theorem Pick.last {O S O1 : List Ent} (h1 : Rem O S O1) : Pick O S O1 := by simpa using Pick.take h1 .nil
theorem Pick.e2 {O O1 F : List Ent} {e1 e2 : Ent} (h1 : Rem O [e1] O1) (h2 : Rem O1 [e2] F) : Pick O [e1, e2] F := Pick.take h1 (Pick.take h2 .nil)
theorem Rem.app {O S O' : List Ent} (R : List Ent) (h : Rem O S O') : Rem (O ++ R) S (O' ++ R) := by
  induction h with
  | here => exact .here
  | hereS => rw [List.append_assoc]; exact .hereS
  | there _ ih => exact .there ih
  | thereS _ ih => rw [List.append_assoc, List.append_assoc]; exact .thereS ih
end
end Go.Proofs.Ytfeciemlhiclbaa


namespace Go.Proofs.Ytfeciemlhiclbaa
open Go.RowKit Go.ChangeShapes Go.WideShapes Go.Deep

section
variable {H : Type} {enc : TypeId × Value → H} {P : Program} {w : World} {base : Nat} {spare : Nat → Bool} {held : Bool}
theorem open_u8s {r : Reach} {b0 : Nat} {t e : TypeId} {v : Value} {d : DataW H} {ps : List MemPlace} (ht : P.underlying t = some (.slice e)) (he : P.underlying e = some (.int .u8)) (hc : P.cellsOf e = 1)
    (hval : Value.okWide P w r b0 t v) (hd : DataW.Trod enc P w base spare held t v d ps) :
    ∃ (a : Option Addr) (bs : List Int) (c : Nat), v = .slice a bs.length c ∧ Cl w a (bl bs) ∧ Bytes bs := by
  obtain ⟨a, len, cap, rfl⟩ := okWide_slice ht hval
  obtain ⟨fuel, hd⟩ := hd
  rcases open_slice1 ht hc hd with ⟨h, _⟩ | ⟨a', len', cap', m, n, V, D, Pl, h, hb, hlc, hm, rfl, hx, hV⟩
  · simp only [Value.cells, List.cons.injEq, Value.slice.injEq, and_true] at h
    obtain ⟨rfl, rfl, rfl⟩ := h
    exact ⟨none, [], 0, rfl, .inl rfl, fun b hb => by cases hb⟩
  · simp only [Value.cells, List.cons.injEq, Value.slice.injEq, and_true] at h
    obtain ⟨rfl, rfl, rfl⟩ := h
    have hm' : len ≤ (if spare a'.block then cap else len) := by split <;> omega
    have hfl : ∀ i, i < len → ∃ b : Nat, V i = .int .u8 (b : Int) ∧ b < 256 := by
      intro i hi
      have := (hV i (by omega)).2
      obtain ⟨k, hk, _, h2⟩ := DataW.trod_int he this
      have h3 : (0 : Int) ≤ k ∧ k ≤ 255 := by
        simp only [Lit.wf, Bool.and_eq_true, decide_eq_true_eq] at h2
        exact ⟨h2.1, h2.2⟩
      simp only [List.cons.injEq, and_true] at hk
      refine ⟨k.toNat, ?_, ?_⟩
      · rw [hk]
        rw [Int.toNat_of_nonneg h3.1]
      · omega
    obtain ⟨B, hB⟩ := choose_lt hfl
    refine ⟨some a', (List.range len).map (fun i => ((B i : Nat) : Int)), cap, by simp, ?_, ?_⟩
    · by_cases h0 : len = 0
      · subst h0; exact .inl rfl
      · have hsp : a'.spot = none := by
          have := (hV 0 (by omega)).1
          simpa [Addr.add] using World.cell?_spot this
        obtain ⟨bk, off, spot⟩ := a'
        simp only at hsp
        subst hsp
        refine .inr ⟨_, rfl, rfl, fun i u hu => ?_⟩
        unfold bl at hu
        simp only [List.getElem?_map, Option.map_eq_some_iff, List.map_map] at hu
        obtain ⟨j, hj, rfl⟩ := hu
        obtain ⟨hlt, rfl⟩ := List.getElem?_eq_some_iff.1 hj
        simp only [List.length_range] at hlt
        have h1 := (hV i (by omega)).1
        rw [add_plain] at h1
        refine ⟨V i, h1, ?_⟩
        rw [(hB i hlt).1]
        simp [cn, cn1, cn0]
    · intro x hx
      obtain ⟨i, hi, rfl⟩ := List.mem_map.1 hx
      have := (hB i (by simpa using hi)).2
      omega
end
end Go.Proofs.Ytfeciemlhiclbaa


namespace Go.Proofs.Ytfeciemlhiclbaa
open Go.RowKit
set_option linter.unusedVariables false
set_option linter.unusedSimpArgs false
set_option maxRecDepth 20000

theorem known17_Base : Known Try.prog 17 := Known.mk' Try.func17 (by kernel_rfl)

theorem c_IsFinite {w : World} (x : Nat) : Pure Try.prog 17 [.float .f32 x] w (.bool (fin x)) := by
  refine Pure.enter Try.func17 rfl Try.ntmps17 (Nat.le_of_ble_eq_true rfl) ?_
  refine V.seq ?_
  refine V.region ?_
  refine VL.r (.inl rfl) rfl (by decide) (yr_assign (u := .bool false) rfl rfl) ?_
  refine VL.nil ?_
  refine VE.then_wp ?_
  refine V.seq ?_
  refine V.region ?_
  refine VL.r (.inl rfl) rfl (by decide) (yr_move rfl rfl) ?_
  refine VL.r (.inl rfl) rfl (by decide) (yr_move rfl rfl) ?_
  refine VL.r (.inl rfl) rfl (by decide) (yr_float rfl (.inr (.inl rfl)) rfl rfl) ?_
  refine VL.r (.inl rfl) rfl (by decide) (yr_fcmp (b := 0) rfl (.inl rfl) rfl rfl) ?_
  refine VL.r (.inl rfl) rfl (by decide) (yr_assign rfl rfl) ?_
  refine VL.nil ?_
  refine VE.then_wp ?_
  refine V.ret ?_
  refine ret1 rfl rfl (fun w1 hw => ?_)
  exact ⟨rfl, hw.below⟩

theorem c_isLength {w : World} (x : Nat) : Pure Try.prog 16 [.float .f32 x] w (.bool (above x)) := by
  refine Pure.enter Try.func16 rfl Try.ntmps16 (Nat.le_of_ble_eq_true rfl) ?_
  refine V.seq ?_
  refine V.region ?_
  refine VL.r (.inl rfl) rfl (by decide) (yr_assign (u := .bool false) rfl rfl) ?_
  refine VL.nil ?_
  refine VE.then_wp ?_
  refine V.seq ?_
  refine V.region ?_
  refine VL.r (.inl rfl) rfl (by decide) (yr_move rfl rfl) ?_
  refine VL.q (.inl rfl) rfl (by decide) (yq_callf rfl known17_Base (.cons rfl .nil) (fun w hw => c_IsFinite _)) ?_
  refine VL.r (.inl rfl) rfl (by decide) (yr_move rfl rfl) ?_
  refine VX.split 5 _ rfl (fun h1 => ?_) (fun h1 => ?_)
  · skip
    refine VL.r (.inr ⟨_, _, _, rfl, rfl, rfl⟩) rfl (by decide) (yr_move rfl rfl) ?_
    refine VL.r (.inr ⟨_, _, _, rfl, rfl, rfl⟩) rfl (by decide) (yr_fcmp (b := 0) rfl (.inr (.inr (.inr (.inr (.inl rfl))))) rfl rfl) ?_
    refine VL.r (.inl rfl) rfl (by decide) (yr_pick_t rfl rfl rfl) ?_
    refine VL.r (.inl rfl) rfl (by decide) (yr_assign rfl rfl) ?_
    refine VL.nil ?_
    refine VE.then_wp ?_
    refine V.ret ?_
    refine ret1 rfl rfl (fun w1 hw => ?_)
    exact ⟨by simp only [above, *, Bool.true_and], hw.below⟩
  · skip
    refine VL.no rfl rfl rfl rfl rfl (by decide) ?_
    refine VL.no rfl rfl rfl rfl rfl (by decide) ?_
    refine VL.r (.inl rfl) rfl (by decide) (yr_pick_f (u := .bool false) rfl rfl rfl) ?_
    refine VL.r (.inl rfl) rfl (by decide) (yr_assign rfl rfl) ?_
    refine VL.nil ?_
    refine VE.then_wp ?_
    refine V.ret ?_
    refine ret1 rfl rfl (fun w1 hw => ?_)
    exact ⟨by simp only [above, *, Bool.false_and], hw.below⟩

end Go.Proofs.Ytfeciemlhiclbaa


namespace Go.Proofs.Ytfeciemlhiclbaa
open Go.RowKit
set_option linter.unusedVariables false
set_option linter.unusedSimpArgs false
set_option maxRecDepth 20000




end Go.Proofs.Ytfeciemlhiclbaa


namespace Go.Proofs.Ytfeciemlhiclbaa
open Go.RowKit
set_option linter.unusedVariables false
set_option linter.unusedSimpArgs false
set_option maxRecDepth 20000




end Go.Proofs.Ytfeciemlhiclbaa


namespace Go.Proofs.Ytfeciemlhiclbaa
open Go.RowKit
set_option linter.unusedVariables false
set_option linter.unusedSimpArgs false
set_option maxRecDepth 20000




end Go.Proofs.Ytfeciemlhiclbaa


namespace Go.Proofs.Ytfeciemlhiclbaa

end Go.Proofs.Ytfeciemlhiclbaa


namespace Go.Proofs.Ytfeciemlhiclbaa
open Go.RowKit
set_option linter.unusedVariables false
set_option linter.unusedSimpArgs false
set_option maxRecDepth 20000

theorem ext66_Chol : ExtF Try.prog 66 Extern.MathSqrt.sqrt := ⟨_, Try.func66, by kernel_rfl, by kernel_rfl, by kernel_rfl, by kernel_rfl⟩
theorem known60_Chol : Known Try.prog 60 := Known.mk' Try.func60 (by kernel_rfl)

theorem c_Sqrt {w : World} (x : Nat) : Pure Try.prog 60 [.float .f64 x] w (.float .f64 (fsqrt x)) := by
  refine Pure.enter Try.func60 rfl Try.ntmps60 (Nat.le_of_ble_eq_true rfl) ?_
  refine V.seq ?_
  refine V.region ?_
  refine VL.r (.inl rfl) rfl (by decide) (yr_assign (u := .float .f64 0) rfl rfl) ?_
  refine VL.nil ?_
  refine VE.then_wp ?_
  refine V.seq ?_
  refine V.region ?_
  refine VL.r (.inl rfl) rfl (by decide) (yr_move rfl rfl) ?_
  refine VL.q (.inl rfl) rfl (by decide) (yq_ext rfl ext66_Chol (.cons rfl .nil) (fun vs w h => ext_sqrt vs w h)) ?_
  refine VL.r (.inl rfl) rfl (by decide) (yr_assign rfl rfl) ?_
  refine VL.nil ?_
  refine VE.then_wp ?_
  refine V.ret ?_
  refine ret1 rfl rfl (fun w1 hw => ?_)
  exact ⟨rfl, hw.below⟩

theorem c_RootNumber {w : World} (x : Nat) : Pure Try.prog 44 [.float .f32 x] w (.float .f32 (sqrt32 x)) := by
  refine Pure.enter Try.func44 rfl Try.ntmps44 (Nat.le_of_ble_eq_true rfl) ?_
  refine V.seq ?_
  refine V.region ?_
  refine VL.r (.inl rfl) rfl (by decide) (yr_assign (u := .float .f32 0) rfl rfl) ?_
  refine VL.nil ?_
  refine VE.then_wp ?_
  refine V.seq ?_
  refine V.region ?_
  refine VL.r (.inl rfl) rfl (by decide) (yr_move rfl rfl) ?_
  refine VL.r (.inl rfl) rfl (by decide) (yr_fconv rfl Try.underlying25 Try.underlying49 (by decide) rfl (fover_up _)) ?_
  refine VL.q (.inl rfl) rfl (by decide) (yq_callf rfl known60_Chol (.cons rfl .nil) (fun w hw => c_Sqrt _)) ?_
  refine VL.r (.inl rfl) rfl (by decide) (yr_fconv rfl Try.underlying49 Try.underlying25 (by decide) rfl (fover_sqrt _)) ?_
  refine VL.r (.inl rfl) rfl (by decide) (yr_assign rfl rfl) ?_
  refine VL.nil ?_
  refine VE.then_wp ?_
  refine V.ret ?_
  refine ret1 rfl rfl (fun w1 hw => ?_)
  exact ⟨rfl, hw.below⟩

end Go.Proofs.Ytfeciemlhiclbaa


namespace Go.Proofs.Ytfeciemlhiclbaa
open Go.RowKit
set_option linter.unusedVariables false
set_option linter.unusedSimpArgs false
set_option maxRecDepth 20000



theorem c_within {w : World} {n lo hi : Int} : Pure Try.prog 28 [.int .i64 n, .int .i64 lo, .int .i64 hi] w (.bool (decide (lo ≤ n ∧ n ≤ hi))) := by
  refine Pure.enter Try.func28 rfl Try.ntmps28 (Nat.le_of_ble_eq_true rfl) ?_
  refine V.seq ?_
  refine V.region ?_
  refine VL.r (.inl rfl) rfl (by decide) (yr_assign (u := .bool false) rfl rfl) ?_
  refine VL.nil ?_
  refine VE.then_wp ?_
  refine V.seq ?_
  refine V.region ?_
  refine VL.r (.inl rfl) rfl (by decide) (yr_move rfl rfl) ?_
  refine VL.r (.inl rfl) rfl (by decide) (yr_move rfl rfl) ?_
  refine VL.r (.inl rfl) rfl (by decide) (yr_icmp rfl (.inr (.inr (.inr (.inr (.inr rfl))))) rfl rfl) ?_
  refine VL.r (.inl rfl) rfl (by decide) (yr_move rfl rfl) ?_
  refine VX.split 10 _ rfl (fun h1 => ?_) (fun h1 => ?_)
  · skip
    replace h1 := ic_geq h1
    refine VL.r (.inr ⟨_, _, _, rfl, rfl, rfl⟩) rfl (by decide) (yr_move rfl rfl) ?_
    refine VL.r (.inr ⟨_, _, _, rfl, rfl, rfl⟩) rfl (by decide) (yr_move rfl rfl) ?_
    refine VL.r (.inr ⟨_, _, _, rfl, rfl, rfl⟩) rfl (by decide) (yr_icmp rfl (.inr (.inr (.inr (.inl rfl)))) rfl rfl) ?_
    refine VL.r (.inl rfl) rfl (by decide) (yr_pick_t rfl rfl rfl) ?_
    refine VL.r (.inl rfl) rfl (by decide) (yr_assign rfl rfl) ?_
    refine VL.nil ?_
    refine VE.then_wp ?_
    refine V.ret ?_
    refine ret1 rfl rfl (fun w1 hw => ?_)
    exact ⟨congrArg Value.bool (in_t (by assumption)), hw.below⟩
  · skip
    replace h1 := ic_geq' h1
    refine VL.no rfl rfl rfl rfl rfl (by decide) ?_
    refine VL.no rfl rfl rfl rfl rfl (by decide) ?_
    refine VL.no rfl rfl rfl rfl rfl (by decide) ?_
    refine VL.r (.inl rfl) rfl (by decide) (yr_pick_f (u := .bool false) rfl rfl rfl) ?_
    refine VL.r (.inl rfl) rfl (by decide) (yr_assign rfl rfl) ?_
    refine VL.nil ?_
    refine VE.then_wp ?_
    refine V.ret ?_
    refine ret1 rfl rfl (fun w1 hw => ?_)
    exact ⟨congrArg Value.bool (in_f (by assumption)), hw.below⟩

end Go.Proofs.Ytfeciemlhiclbaa

