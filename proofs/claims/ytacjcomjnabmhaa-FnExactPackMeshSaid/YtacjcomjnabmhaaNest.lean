/- Lists of lists of floats: their cells and what each row owns. -/
import Derived.Test.YtacjcomjnabmhaaNar
namespace Go.Proofs.Ytacjcomjnabmhaa
open Go.RowKit

def hd (f : Nat → Option Addr × Nat) (xss : List (List Nat)) : List Value := (List.range xss.length).map fun i => .slice (f i).1 (xss.getD i []).length (f i).2
def rents (t : TypeId) (f : Nat → Option Addr × Nat) (xss : List (List Nat)) : List Ent := (List.range xss.length).map fun i => ⟨(f i).1, fl (xss.getD i []), (f i).2 * 1, t⟩
theorem hd_length (f : Nat → Option Addr × Nat) (xss : List (List Nat)) : (hd f xss).length = xss.length := by simp [hd]
theorem hd_get {f : Nat → Option Addr × Nat} {xss : List (List Nat)} {k : Nat} (h : k < xss.length) : (hd f xss)[k]? = some (.slice (f k).1 (xss.getD k []).length (f k).2) := by
  simp [hd, h]
theorem rents_mem {t : TypeId} {f : Nat → Option Addr × Nat} {xss : List (List Nat)} {i : Nat} (h : i < xss.length) : (⟨(f i).1, fl (xss.getD i []), (f i).2 * 1, t⟩ : Ent) ∈ rents t f xss := by
  unfold rents
  exact List.mem_map.2 ⟨i, by simpa using h, rfl⟩
/-- Each row's cells lie where its header says. -/
def Rws (w : World) (f : Nat → Option Addr × Nat) (xss : List (List Nat)) : Prop := ∀ i, i < xss.length → Cl w (f i).1 (fl (xss.getD i []))
theorem Rws.below {w w' : World} {f : Nat → Option Addr × Nat} {xss : List (List Nat)} (h : Rws w f xss) (hb : Below w.heap.size w w') : Rws w' f xss := fun i hi => (h i hi).below hb
theorem Rws.root {w0 w : World} {O : List Ent} {f : Nat → Option Addr × Nat} {xss : List (List Nat)} (h : Rws w0 f xss) (hw : Hp w0 O w) : Rws w f xss := h.below hw.below
inductive RowsIn : List Ent → TypeId → (Nat → Option Addr × Nat) → List (List Nat) → Prop
  | here {t : TypeId} {f : Nat → Option Addr × Nat} {xss : List (List Nat)} {O : List Ent} : RowsIn (rents t f xss ++ O) t f xss
  | last {t : TypeId} {f : Nat → Option Addr × Nat} {xss : List (List Nat)} : RowsIn (rents t f xss) t f xss
  | there {t : TypeId} {f : Nat → Option Addr × Nat} {xss : List (List Nat)} {e : Ent} {O : List Ent} : RowsIn O t f xss → RowsIn (e :: O) t f xss
  | thereS {t : TypeId} {f : Nat → Option Addr × Nat} {xss : List (List Nat)} {S O : List Ent} : RowsIn O t f xss → RowsIn (S ++ O) t f xss
theorem RowsIn.mem {O : List Ent} {t : TypeId} {f : Nat → Option Addr × Nat} {xss : List (List Nat)} (h : RowsIn O t f xss) : ∀ i, i < xss.length → (⟨(f i).1, fl (xss.getD i []), (f i).2 * 1, t⟩ : Ent) ∈ O := by
  induction h with
  | here => exact fun i hi => List.mem_append_left _ (rents_mem hi)
  | last => exact fun i hi => rents_mem hi
  | there _ ih => exact fun i hi => List.mem_cons_of_mem _ (ih i hi)
  | thereS _ ih => exact fun i hi => List.mem_append_right _ (ih i hi)
theorem Rws.own {w0 w : World} {O : List Ent} {t : TypeId} {f : Nat → Option Addr × Nat} {xss : List (List Nat)} (h : RowsIn O t f xss) (hw : Hp w0 O w) : Rws w f xss := fun i hi => Sees.own (h.mem i hi) w hw
/-- The address and the capacity of one row more. -/
def upd (f : Nat → Option Addr × Nat) (k : Nat) (p : Option Addr × Nat) : Nat → Option Addr × Nat := fun i => if i = k then p else f i
theorem hd_snoc (f : Nat → Option Addr × Nat) (xss : List (List Nat)) (p : Option Addr × Nat) (xs : List Nat) : hd f xss ++ [.slice p.1 xs.length p.2] = hd (upd f xss.length p) (xss ++ [xs]) := by
  apply List.ext_getElem?
  intro i
  rcases Nat.lt_trichotomy i xss.length with h | h | h
  · rw [List.getElem?_append_left (by simpa [hd_length] using h), hd_get h, hd_get (by simp; omega)]
    simp [upd, Nat.ne_of_lt h, List.getD, List.getElem?_append_left h]
  · subst h
    rw [List.getElem?_append_right (by simp [hd_length]), hd_get (by simp), hd_length]
    simp [upd, List.getD]
  · rw [List.getElem?_eq_none (by simp [hd_length]; omega), List.getElem?_eq_none (by simp [hd_length]; omega)]
theorem rents_snoc (t : TypeId) (f : Nat → Option Addr × Nat) (xss : List (List Nat)) (p : Option Addr × Nat) (xs : List Nat) : rents t f xss ++ [⟨p.1, fl xs, p.2 * 1, t⟩] = rents t (upd f xss.length p) (xss ++ [xs]) := by
  apply List.ext_getElem?
  intro i
  have hl : ∀ f xss, (rents t f xss).length = xss.length := fun f xss => by simp [rents]
  have hg : ∀ (f : Nat → Option Addr × Nat) (xss : List (List Nat)) (k : Nat), k < xss.length → (rents t f xss)[k]? = some ⟨(f k).1, fl (xss.getD k []), (f k).2 * 1, t⟩ := fun f xss k h => by simp [rents, h]
  rcases Nat.lt_trichotomy i xss.length with h | h | h
  · rw [List.getElem?_append_left (by simpa [hl] using h), hg _ _ _ h, hg _ _ _ (by simp; omega)]
    simp [upd, Nat.ne_of_lt h, List.getD, List.getElem?_append_left h]
  · subst h
    rw [List.getElem?_append_right (by simp [hl]), hg _ _ _ (by simp), hl]
    simp [upd, List.getD]
  · rw [List.getElem?_eq_none (by simp [hl]; omega), List.getElem?_eq_none (by simp [hl]; omega)]
/-- The header list of which the first k are made, the others nil. -/
def hdk (f : Nat → Option Addr × Nat) (xss : List (List Nat)) (k : Nat) : List Value := hd f (xss.take k) ++ List.replicate (xss.length - k) (.slice none 0 0)
theorem hdk_length {f : Nat → Option Addr × Nat} {xss : List (List Nat)} {k : Nat} (h : k ≤ xss.length) : (hdk f xss k).length = xss.length := by
  simp [hdk, hd_length]; omega
theorem hdk_zero (f : Nat → Option Addr × Nat) (xss : List (List Nat)) : hdk f xss 0 = List.replicate xss.length (.slice none 0 0) := by simp [hdk, hd]
theorem hdk_all (f : Nat → Option Addr × Nat) (xss : List (List Nat)) : hdk f xss xss.length = hd f xss := by simp [hdk]
theorem take_snoc {xss : List (List Nat)} {k : Nat} (h : k < xss.length) : xss.take k ++ [xss.getD k []] = xss.take (k + 1) := by
  rw [List.take_succ_eq_append_getElem h]; simp [h]
theorem hdk_set {f : Nat → Option Addr × Nat} {xss : List (List Nat)} {k : Nat} (h : k < xss.length) (p : Option Addr × Nat) : (hdk f xss k).set k (.slice p.1 (xss.getD k []).length p.2) = hdk (upd f k p) xss (k + 1) := by
  have hlk : (xss.take k).length = k := by rw [List.length_take]; omega
  unfold hdk
  rw [← take_snoc h]
  have := hd_snoc f (xss.take k) p (xss.getD k [])
  rw [hlk] at this
  rw [← this]
  obtain ⟨m, hm⟩ : ∃ m, xss.length - k = m + 1 := ⟨xss.length - k - 1, by omega⟩
  rw [hm, List.replicate_succ, List.set_append_right _ _ (by rw [hd_length, hlk]; omega), hd_length, hlk, Nat.sub_self, List.set_cons_zero, show xss.length - (k + 1) = m by omega]
  simp
theorem rents_take {t : TypeId} {f : Nat → Option Addr × Nat} {xss : List (List Nat)} {k : Nat} (h : k < xss.length) (p : Option Addr × Nat) : rents t f (xss.take k) ++ [⟨p.1, fl (xss.getD k []), p.2 * 1, t⟩] = rents t (upd f k p) (xss.take (k + 1)) := by
  have hlk : (xss.take k).length = k := by rw [List.length_take]; omega
  have := rents_snoc t f (xss.take k) p (xss.getD k [])
  rw [hlk] at this
  rw [this, take_snoc h]
theorem cycle_nils (m : Nat) : cycle [Value.slice none 0 0] m = List.replicate m (.slice none 0 0) := by
  induction m with
  | zero => rfl
  | succ m ih => simp [cycle, ih, List.replicate_succ]
theorem hd_scal (f : Nat → Option Addr × Nat) (xss : List (List Nat)) : (hd f xss).all scal = true := by simp [hd, scal]
theorem le_sum {l : List Nat} {x : Nat} (h : x ∈ l) : x ≤ l.sum := by
  induction l with
  | nil => cases h
  | cons y l ih =>
    rw [List.sum_cons]
    rcases List.mem_cons.1 h with h | h
    · omega
    · have := ih h; omega
theorem row_small {xss : List (List Nat)} {m k : Nat} (h : (xss.map List.length).sum ≤ m) (hk : k < xss.length) : (xss.getD k []).length ≤ m := by
  have : (xss.getD k []).length ≤ (xss.map List.length).sum := le_sum (List.mem_map.2 ⟨xss.getD k [], by simp [hk], rfl⟩)
  omega
def Cans (xss : List (List Nat)) : Prop := ∀ xs ∈ xss, ∀ x ∈ xs, Can .f32 x
theorem Cans.row {xss : List (List Nat)} (h : Cans xss) {k : Nat} (hk : k < xss.length) : ∀ x ∈ xss.getD k [], Can .f32 x := h _ (by simp [hk])

/-! ### sizes -/
def szOf (left : Int) (m : Nat) : Int := if left < m then -1 else left - m
def sumK (xss : List (List Nat)) (k : Nat) : Nat := ((xss.take k).map List.length).sum
def bulk (xss : List (List Nat)) : Nat := xss.length + sumK xss xss.length
theorem sumK_zero (xss : List (List Nat)) : sumK xss 0 = 0 := by simp [sumK]
theorem sumK_succ {xss : List (List Nat)} {k : Nat} (h : k < xss.length) : sumK xss (k + 1) = sumK xss k + (xss.getD k []).length := by
  unfold sumK
  rw [← take_snoc h]
  simp
theorem sumK_mono (xss : List (List Nat)) : ∀ (k m : Nat), k ≤ m → m ≤ xss.length → sumK xss k ≤ sumK xss m
  | k, 0, h, _ => by rw [show k = 0 by omega]; exact Nat.le_refl _
  | k, m + 1, h, hm => by
    by_cases e : k = m + 1
    · rw [e]; exact Nat.le_refl _
    · rw [sumK_succ (by omega)]
      have := sumK_mono xss k m (by omega) (by omega)
      omega
theorem bulk_row {xss : List (List Nat)} {k : Nat} (h : k < xss.length) : (xss.getD k []).length + xss.length ≤ bulk xss := by
  unfold bulk
  have h1 := sumK_mono xss (k + 1) xss.length (by omega) (Nat.le_refl _)
  rw [sumK_succ h] at h1
  omega

/-! ### rows that are marked -/
def rentE (t : TypeId) (f : Nat → Option Addr × Nat) (xss : List (List Nat)) (i : Nat) : Ent := ⟨(f i).1, fl (xss.getD i []), (f i).2 * 1, t⟩
def rentsBut (t : TypeId) (f : Nat → Option Addr × Nat) (xss : List (List Nat)) (k : Nat) : List Ent := ((List.range xss.length).erase k).map (rentE t f xss)
theorem rents_out {t : TypeId} {f : Nat → Option Addr × Nat} {xss : List (List Nat)} {k : Nat} (h : k < xss.length) : (rents t f xss).Perm (⟨(f k).1, fl (xss.getD k []), (f k).2 * 1, t⟩ :: rentsBut t f xss k) :=
  (List.perm_cons_erase (show k ∈ List.range xss.length by simpa using h)).map (rentE t f xss)
def mixR (k0 : Int) (xss : List (List Nat)) (k : Nat) : List (List Nat) := (List.range xss.length).map fun i => if i < k then marks (k0 + (sumK xss i : Nat)) (xss.getD i []).length else xss.getD i []
theorem mixR_length (k0 : Int) (xss : List (List Nat)) (k : Nat) : (mixR k0 xss k).length = xss.length := by simp [mixR]
theorem mixR_get (k0 : Int) {xss : List (List Nat)} (k : Nat) {i : Nat} (h : i < xss.length) : (mixR k0 xss k).getD i [] = if i < k then marks (k0 + (sumK xss i : Nat)) (xss.getD i []).length else xss.getD i [] := by simp [mixR, List.getD, h]
theorem mixR_zero (k0 : Int) (xss : List (List Nat)) : mixR k0 xss 0 = xss := by
  apply List.ext_getElem (by simp [mixR])
  intro i h1 h2
  simp [mixR, List.getD, h2]
theorem rentsBut_mix {t : TypeId} {f : Nat → Option Addr × Nat} (k0 : Int) {xss : List (List Nat)} {k : Nat} : rentsBut t f (mixR k0 xss k) k = rentsBut t f (mixR k0 xss (k + 1)) k := by
  unfold rentsBut
  rw [mixR_length, mixR_length]
  apply List.map_congr_left
  intro i hi
  have hn : i ≠ k := fun e => by
    subst e
    exact (List.Nodup.not_mem_erase List.nodup_range) hi
  have hl : i < xss.length := by simpa using List.mem_of_mem_erase hi
  unfold rentE
  rw [mixR_get k0 k hl, mixR_get k0 (k + 1) hl]
  by_cases h : i < k
  · rw [if_pos h, if_pos (by omega)]
  · rw [if_neg h, if_neg (by omega)]

section
variable {P : Program} {n : Nat} {w0 : World} {O : List Ent} {E : Env} {o : Oper}
theorem yq_loadH {t : TypeId} {x : Operand} {a : Option Addr} {k : Nat} {f : Nat → Option Addr × Nat} {xss : List (List Nat)} (ho : o.op = .load t x) (ht : flatB P t = true) (hx : E.opd x = some (.pointer (some (adr a k)))) (hs : Sees w0 O a (hd f xss)) (hk : k < xss.length) : YQ P w0 O E o (.slice (f k).1 (xss.getD k []).length (f k).2) :=
  yq_load ho ht hx hs (hd_get hk)

/-! ### results that lie in cells -/
def rdRes (tmps : Array Value) : ResultVar → Sem Value
  | .tmp t => pure (tmps.getD t undef)
  | .cell c t => do loadVar t (← asAddr (tmps.getD c undef))
theorem results_rd (fn : Func) (tmps : Array Value) : results fn tmps = (do let vs ← fn.results.mapM (rdRes tmps); pure (if h : vs.size = 1 then vs[0] else .tuple vs)) := by
  unfold results
  congr 1
def RV (n : Nat) (P : Program) (w0 : World) (O : List Ent) (E : Env) (r : ResultVar) (u : Value) : Prop :=
  ∀ (a : Act) (w : World), Models n E a → Hp w0 O w → ∃ v, (rdRes a.tmps r).run P w = .ok v w ∧ cn1 v = u
theorem rv_tmp {t : Tmp} {u : Value} (hu : E.get t = some u) (hn : ∀ z, u ≠ .tuple z) : RV n P w0 O E (.tmp t) u := by
  intro a w ha hw
  obtain ⟨v, h1, h2⟩ := ha.get t u hu
  exact ⟨v, by simp [rdRes, h1], cn_of_ne h2 hn⟩
theorem rv_cellS {c : Tmp} {t : TypeId} {a : Option Addr} {k z : Nat} {us cs : List Value} {fs : Array Field} (hu : E.get c = some (.pointer (some (adr a k)))) (ht : P.underlying t = some (.struct fs)) (hz : (P.info? t).map (·.size) = some z) (hs : Sees w0 O a us)
    (hcs : (us.drop k).take z = cs) (hl : cs.length = z) (hsc : cs.all scal = true) : RV n P w0 O E (.cell c t) (.agg cs.toArray) := by
  intro ac w ha hw
  obtain ⟨v, h1, h2⟩ := ha.get c _ hu
  have e1 := cn_pointer h2
  obtain ⟨vs, g1, g2, g3⟩ := (hs w hw).cellsN cs k (fun j u hj => by
    subst hcs
    have hj' : j < z := by
      have := (List.getElem?_eq_some_iff.1 hj).1
      simp at this; omega
    rw [List.getElem?_take, if_pos hj', List.getElem?_drop] at hj
    exact hj)
  obtain ⟨h4, h5⟩ := map_cn0_of g3 hsc
  have hload := run_loadCells_adr (P := P) (w := w) (a := a) (k := k) vs g2
  rw [g1, hl] at hload
  refine ⟨.agg vs.toArray, ?_, by simp [cn1, h4]⟩
  simp [rdRes, h1, e1, asAddr, loadVar, aggB ht, info_size hz, hload]
theorem rv_cell {c : Tmp} {t : TypeId} {a : Option Addr} {k : Nat} {us : List Value} {u : Value} (hu : E.get c = some (.pointer (some (adr a k)))) (ht : flatB P t = true) (hs : Sees w0 O a us) (hk : us[k]? = some u) (hsc : scal u = true) : RV n P w0 O E (.cell c t) u := by
  intro ac w ha hw
  obtain ⟨v, h1, h2⟩ := ha.get c _ hu
  have e1 := cn_pointer h2
  obtain ⟨v', hv, hu'⟩ := (hs w hw).cell hk
  refine ⟨v', by simp [rdRes, h1, e1, asAddr, loadVar, run_isAgg_flat ht, hv], ?_⟩
  exact cn_of_ne hu' (fun z h => by subst h; simp [scal] at hsc)
inductive RVs (n : Nat) (P : Program) (w0 : World) (O : List Ent) (E : Env) : List ResultVar → List Value → Prop
  | nil : RVs n P w0 O E [] []
  | cons {r : ResultVar} {u : Value} {rs : List ResultVar} {us : List Value} : RV n P w0 O E r u → RVs n P w0 O E rs us → RVs n P w0 O E (r :: rs) (u :: us)
theorem RVs.run {rs : List ResultVar} {us : List Value} (h : RVs n P w0 O E rs us) {a : Act} {w : World} (ha : Models n E a) (hw : Hp w0 O w) :
    ∃ vs : List Value, (rs.mapM (m := Sem) (rdRes a.tmps)).run P w = .ok vs w ∧ vs.map cn1 = us := by
  induction h with
  | nil => exact ⟨[], rfl, rfl⟩
  | cons hr _ ih =>
    obtain ⟨v, h1, h2⟩ := hr a w ha hw
    obtain ⟨vs, h3, h4⟩ := ih
    exact ⟨v :: vs, by simp only [List.mapM_cons, Sem.run_bind, h1, Result.andThen_ok, h3, Sem.run_pure], by simp [h2, h4]⟩
theorem run_results {fn : Func} {rs : List ResultVar} {us : List Value} (hr : fn.results = rs.toArray) (h : RVs n P w0 O E rs us) {a : Act} {w : World} (ha : Models n E a) (hw : Hp w0 O w) :
    ∃ vs : List Value, (results fn a.tmps).run P w = .ok (if h : vs.toArray.size = 1 then vs.toArray[0] else .tuple vs.toArray) w ∧ vs.map cn1 = us := by
  obtain ⟨vs, h1, h2⟩ := h.run ha hw
  refine ⟨vs, ?_, h2⟩
  rw [results_rd, hr, Array.mapM_eq_mapM_toList, Sem.run_bind, Sem.run_map]
  rw [h1]
  rfl
theorem retC {fn : Func} {R : Value → World → Prop} {r : ResultVar} {u : Value} (hr : fn.results = #[r]) (h : RV n P w0 O E r u) (hn : ∀ z, u ≠ .tuple z) (hk : ∀ w, Hp w0 O w → R u w) : VE n w0 O E (Ends P fn R) .ret := by
  intro a w ha hw
  obtain ⟨vs, h1, h2⟩ := run_results (rs := [r]) hr (.cons h .nil) ha hw
  match vs, h2 with
  | [v], h2 =>
    simp only [List.map_cons, List.map_nil, List.cons.injEq, and_true] at h2
    refine bodyPost_ret h1 ha.defers ⟨v, rfl, ?_⟩
    have : cn v = u := by
      rw [← h2] at hn ⊢
      cases v <;> first | rfl | exact absurd rfl (hn _)
    rw [this]; exact hk w hw
theorem retN {fn : Func} {R : Value → World → Prop} {rs : List ResultVar} {us : List Value} (hr : fn.results = rs.toArray) (h : RVs n P w0 O E rs us) (h2 : us.length ≠ 1) (hk : ∀ w, Hp w0 O w → R (.tuple us.toArray) w) : VE n w0 O E (Ends P fn R) .ret := by
  intro a w ha hw
  obtain ⟨vs, h1, h3⟩ := run_results hr h ha hw
  have hl : ¬ vs.toArray.size = 1 := by rw [← h3] at h2; simpa using h2
  rw [dif_neg hl] at h1
  refine bodyPost_ret h1 ha.defers ⟨_, rfl, ?_⟩
  have := hk w hw
  rw [← h3] at this
  simpa [cn] using this
end
end Go.Proofs.Ytacjcomjnabmhaa
