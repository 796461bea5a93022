/- Slices that are made, and append. -/
import Derived.Test.YtacjcomjnabmhaaCalls
namespace Go.Proofs.Ytacjcomjnabmhaa
open Go.RowKit
set_option linter.unusedSimpArgs false

section
variable {P : Program} {n : Nat} {w0 : World} {O : List Ent} {E : Env} {o : Oper}

/-- What is known of an element type: its zero cells and its bytes. -/
def Elt (P : Program) (e : TypeId) (zero : List Value) (bytes : Nat) : Prop :=
  ∃ i z, P.info? e = some i ∧ i.zero = some z ∧ z.cells.toList = zero ∧ i.size = zero.length ∧ i.bytes = bytes ∧ zero.length ≠ 0

theorem Elt.mk' {e : TypeId} {zero : List Value} {bytes : Nat} (h : (P.info? e).map (fun i => (i.zero.map (·.cells.toList), i.size, i.bytes)) = some (some zero, zero.length, bytes)) (h0 : zero.length ≠ 0) : Elt P e zero bytes := by
  obtain ⟨i, hi, h⟩ := Option.map_eq_some_iff.1 h
  simp only [Prod.mk.injEq] at h
  obtain ⟨h1, h2, h3⟩ := h
  obtain ⟨z, hz, h1⟩ := Option.map_eq_some_iff.1 h1
  exact ⟨i, z, hi, hz, h1, h2, h3, h0⟩

theorem mul_zero_cases {a b : Nat} (h : a * b = 0) : a = 0 ∨ b = 0 := Nat.mul_eq_zero.1 h

def cycle (zero : List Value) : Nat → List Value
  | 0 => []
  | m + 1 => zero ++ cycle zero m
theorem cycle_length (zero : List Value) (m : Nat) : (cycle zero m).length = m * zero.length := by
  induction m with
  | zero => simp [cycle]
  | succ m ih => simp [cycle, ih, Nat.add_mul, Nat.add_comm]
theorem cycle_get (zero : List Value) : ∀ (m j : Nat), j < m * zero.length → (cycle zero m)[j]? = zero[j % zero.length]?
  | 0, j, h => by simp at h
  | m + 1, j, h => by
    have hz : 0 < zero.length := by rcases Nat.eq_zero_or_pos zero.length with h' | h'; · rw [h'] at h; simp at h
                                    · exact h'
    simp only [cycle]
    by_cases hj : j < zero.length
    · rw [List.getElem?_append_left hj, Nat.mod_eq_of_lt hj]
    · rw [List.getElem?_append_right (by omega), cycle_get zero m (j - zero.length) (by rw [Nat.add_mul] at h; omega), Nat.mod_eq_sub_mod (a := j) (by omega)]
theorem range_cycle (zero : Array Value) (m : Nat) (hz : 0 < zero.size) : ((Array.range (m * zero.size)).map (zero[· % zero.size]!)).toList = cycle zero.toList m := by
  apply List.ext_getElem?
  intro j
  by_cases hj : j < m * zero.size
  · have hm := Nat.mod_lt j hz
    rw [cycle_get zero.toList m j (by simpa using hj)]
    simp only [Array.toList_map, Array.toList_range, List.getElem?_map, List.getElem?_range hj, Option.map_some, Array.length_toList, Array.getElem?_toList]
    rw [Array.getElem?_eq_getElem hm, getElem!_pos zero (j % zero.size) hm]
  · rw [List.getElem?_eq_none (by simp; omega), List.getElem?_eq_none (by rw [cycle_length]; simp; omega)]
theorem cycle_map (f : Value → Value) (zero : List Value) (m : Nat) : (cycle zero m).map f = cycle (zero.map f) m := by
  induction m with
  | zero => rfl
  | succ m ih => simp [cycle, ih]

/-- make([]T, n) -/
theorem yn_makeSlice {t e : TypeId} {x y : Operand} {m bytes : Nat} {zero : List Value} (ho : o.op = .makeSlice t x y) (ht : P.underlying t = some (.slice e)) (hE' : Elt P e zero bytes) (hzc : zero.map cn = zero)
    (hx : E.opd x = some (.int .i64 m)) (hy : E.opd y = some (.int .i64 m)) (hm : m * bytes ≤ 140737488355328) (hm' : m ≤ 140737488355328) :
    YN P w0 O E o (fun b : Nat => .slice (some ⟨b, 0, none⟩) m m) (fun b => [⟨some ⟨b, 0, none⟩, cycle zero m, m * zero.length, e⟩]) := by
  intro ρ w hE hw
  obtain ⟨i, z, h1, h2, h3, h4, h5, h6⟩ := hE'
  have e1 := cn_int (hE.get (x := x) (by simp [ho, Op.operands]) hx)
  have e2 := cn_int (hE.get (x := y) (by simp [ho, Op.operands]) hy)
  have hw1 : IntKind.i64.wrap (m : Int) = m := IntWalk.i64_in _ (by omega)
  have hsz : z.cells.size = zero.length := by rw [← h3]; simp
  have hbm : (bytes : Int) * m ≤ 281474976710656 := by
    have h8 : ((m * bytes : Nat) : Int) ≤ ((140737488355328 : Nat) : Int) := Int.ofNat_le.2 hm
    rw [Int.natCast_mul] at h8
    rw [Int.mul_comm]; omega
  have hr : (execOp ρ o).run P w = .ok (.value (.slice (some ⟨w.heap.size, 0, none⟩) m m)) (w.alloc (.cells (cycle zero m).toArray e)) := by
    have hnr : (newRow e ((Array.range (m * zero.length)).map (z.cells[· % z.cells.size]!))).run P w = .ok ⟨w.heap.size, 0, none⟩ (w.alloc (.cells (cycle zero m).toArray e)) := by
      rw [run_newRow, ← hsz, ← h3, ← range_cycle z.cells m (by omega)]
    have hask : (askRoom (m * bytes)).run P w = .ok () w := by
      unfold askRoom roomBytes
      rw [if_neg (by omega)]; rfl
    by_cases hm0 : m * zero.length = 0
    · have hm00 : m = 0 := by
        rcases mul_zero_cases hm0 with h | h
        · exact h
        · exact absurd h h6
      subst hm00
      have hw0 : IntKind.i64.wrap 0 = 0 := by decide
      simp only [Nat.zero_mul] at hask
      simp [execOp, ho, e1, e2, Instr.makeSlice, run_underlying ht, asInt, asIntOf, typeInfo, h1, program, Sem.run, sizeOf, h4, hw0, hask, run_newRow, cycle]
      congr 2
      apply Array.ext'
      simp
    · have hm1 : m ≠ 0 := fun h => hm0 (by rw [h, Nat.zero_mul])
      have hnotneg : ¬ ((m : Int) < 0) := by omega
      have hng : ¬ (281474976710656 < (bytes : Int) * m) := by omega
      simp [execOp, ho, e1, e2, Instr.makeSlice, run_underlying ht, asInt, asIntOf, typeInfo, h1, program, Sem.run, sizeOf, h4, h5, hw1, hnotneg, hng, hask, hm1, h6, zeroValue, h2]
      rw [if_neg hm0, hnr]; rfl
  rw [hr]
  refine ⟨w.heap.size, rfl, below_alloc _ _ _, ?_, List.pairwise_singleton _ _⟩
  intro e' he'
  simp only [List.mem_singleton] at he'
  subst he'
  have := ent_new w (cycle zero m) (cycle zero m) e (by rw [cycle_map, hzc])
  rwa [cycle_length] at this

/-- []T{..} whose parts fill it -/
theorem yn_buildSlice {t e : TypeId} {m bytes : Nat} {parts : Array (Nat × Operand)} {zero : List Value} {us cells : List Value} (ho : o.op = .buildSlice t m parts) (ht : P.underlying t = some (.slice e)) (hE' : Elt P e zero bytes) (hzc : zero.map cn0 = zero) (hm : m * zero.length ≤ 16777216)
    (hx : Opds E (parts.toList.map (·.2)) us) (hn : ∀ u ∈ us, ∀ z, u ≠ .tuple z)
    (hc : fillC ((List.range m).map fun i => (i * zero.length, zero.length)) ((parts.toList.map (·.1)).zip us) (cycle zero m) = some cells) (hs : cells.all scal = true) :
    YN P w0 O E o (fun b : Nat => .slice (some ⟨b, 0, none⟩) m m) (fun b => [⟨some ⟨b, 0, none⟩, cells, m * zero.length, e⟩]) := by
  intro ρ w hE hw
  obtain ⟨i, z, h1, h2, h3, h4, h5, h6⟩ := hE'
  have hsz : z.cells.size = zero.length := by rw [← h3]; simp
  have hm' := hx.map hE (fun x hx => by simp [ho, Op.operands] at hx ⊢; exact hx)
  have hparts : ((parts.map fun (i, x) => (i, ρ x)).toList.map fun p => (p.1, cn p.2)) = (parts.toList.map (·.1)).zip us := by
    rw [← hm']
    simp only [Array.toList_map, List.map_map, List.zip_map']
    rfl
  have hnt : ∀ p ∈ (parts.map fun (i, x) => (i, ρ x)).toList, ∀ z, p.2 ≠ .tuple z := by
    intro p hp z he
    simp only [Array.toList_map, List.mem_map] at hp
    obtain ⟨⟨i, x⟩, hix, rfl⟩ := hp
    simp only at he
    have hu : cn (ρ x) ∈ us := by
      rw [← hm']
      simp only [List.map_map, List.mem_map]
      exact ⟨(i, x), hix, rfl⟩
    have := hn _ hu (z.map cn1)
    rw [he] at this
    exact this rfl
  have hcn := fillC_cn ((List.range m).map fun i => (i * zero.length, zero.length)) (parts.map fun (i, x) => (i, ρ x)).toList (cycle zero m) hnt
  rw [hparts, cycle_map, hzc, hc] at hcn
  obtain ⟨cs, hcs, hcs'⟩ := Option.map_eq_some_iff.1 hcn.symm
  -- the model's own filling: every index has a place there; here only those below m
  have hfill : ∀ (ps : List (Nat × Value)) (cells : Array Value) (out : List Value), fillC ((List.range m).map fun i => (i * zero.length, zero.length)) ps cells.toList = some out →
      Instr.fill (fun i => some (i * zero.length, zero.length)) cells ps = some out.toArray := by
    intro ps
    induction ps with
    | nil => intro cells out h; simp only [fillC, Option.some.injEq] at h; subst h; simp [Instr.fill]
    | cons p ps ih =>
      obtain ⟨i, v⟩ := p
      intro cells out h
      simp only [fillC] at h
      by_cases him : i < m
      · simp only [List.getElem?_map, List.getElem?_range him, Option.map_some] at h
        split at h
        · cases h
        · rename_i hne
          simp only [Instr.fill]
          rw [if_neg (by simpa using hne)]
          refine ih _ _ ?_
          rw [← h]
          congr 1
          have := foldl_setAt v.cells.toList (i * zero.length) 0 cells
          simp only [Nat.add_zero] at this
          rw [← this]
          rw [← Array.foldl_toList, Array.toList_zipIdx]
      · rw [List.getElem?_eq_none (by simp; omega)] at h
        cases h
  have hr : (execOp ρ o).run P w = .ok (.value (.slice (some ⟨w.heap.size, 0, none⟩) m m)) (w.alloc (.cells cs.toArray e)) := by
    by_cases hm0 : m * zero.length = 0
    · have hm00 : m = 0 := by
        rcases mul_zero_cases hm0 with h | h
        · exact h
        · exact absurd h h6
      subst hm00
      have hf := hfill _ #[] cs (by simpa [cycle] using hcs)
      simp [execOp, ho, Instr.buildSlice, run_underlying ht, info_size (show (P.info? e).map (·.size) = some zero.length by simp [h1, h4])]
      have hf' : Instr.fill (fun i => some (i * zero.length, zero.length)) #[] (parts.toList.map fun x => (x.1, ρ x.2)) = some cs.toArray := by simpa using hf
      rw [show Array.map (fun x => (default : Value)) (Array.range 0) = #[] from by apply Array.ext'; simp, hf']
      simp [run_newRow]
    · have hm1 : m ≠ 0 := fun h => hm0 (by rw [h, Nat.zero_mul])
      have hbig : ¬ (16777216 < m * zero.length) := by omega
      have hf := hfill _ ((Array.range (m * zero.length)).map (z.cells[· % z.cells.size]!)) cs (by rw [← hsz, range_cycle z.cells m (by omega), h3]; simpa [hsz] using hcs)
      simp [execOp, ho, Instr.buildSlice, run_underlying ht, info_size (show (P.info? e).map (·.size) = some zero.length by simp [h1, h4]), hbig, hm1, h6, info_zero (show (P.info? e).bind (·.zero) = some z by simp [h1, h2])]
      have hf' : Instr.fill (fun i => some (i * zero.length, zero.length)) ((Array.range (m * zero.length)).map (z.cells[· % z.cells.size]!)) (parts.toList.map fun x => (x.1, ρ x.2)) = some cs.toArray := by simpa using hf
      rw [if_neg hm0, hf']
      simp [run_newRow]
  rw [hr]
  refine ⟨w.heap.size, rfl, below_alloc _ _ _, ?_, List.pairwise_singleton _ _⟩
  intro e' he'
  simp only [List.mem_singleton] at he'
  subst he'
  have hcn1 : cs.map cn = cells := by
    rw [← hcs']
    apply List.map_congr_left
    intro v hv
    have : scal (cn0 v) = true := List.all_eq_true.1 hs _ (by rw [← hcs']; exact List.mem_map_of_mem hv)
    cases v <;> simp [cn0, scal] at this <;> rfl
  have hlen : cells.length = m * zero.length := by
    have key : ∀ (ps : List (Nat × Value)) (c out : List Value), fillC ((List.range m).map fun i => (i * zero.length, zero.length)) ps c = some out → out.length = c.length := by
      intro ps
      induction ps with
      | nil => intro c out h; simp only [fillC, Option.some.injEq] at h; rw [h]
      | cons p ps ih =>
        intro c out h
        simp only [fillC] at h
        split at h
        · cases h
        · split at h
          · cases h
          · rw [ih _ _ h, setAt_length]
    rw [key _ _ _ hc, cycle_length]
  have := ent_new w cs cells e hcn1
  rwa [hlen] at this

theorem fillC_row (places : List (Nat × Nat)) : ∀ (r l rest : List Value), rest.length = r.length → r.all scal = true → (∀ i, i < l.length + r.length → places[i]? = some (i, 1)) →
    fillC places ((List.range' l.length r.length).zip r) (l ++ rest) = some (l ++ r)
  | [], l, rest, h, _, _ => by
    have : rest = [] := List.eq_nil_of_length_eq_zero h
    subst this; simp [fillC]
  | u :: r, l, rest, h, hs, hp => by
    cases rest with
    | nil => simp at h
    | cons x rest =>
      simp only [List.all_cons, Bool.and_eq_true] at hs
      simp only [List.length_cons, Nat.add_right_cancel_iff] at h
      have hc : u.cells = #[u] := by cases u <;> simp [scal, Value.cells] at hs ⊢
      simp only [List.length_cons, List.range'_succ, List.zip_cons_cons, fillC, hp l.length (by simp)]
      rw [hc]
      have hset : setAt (l ++ x :: rest) l.length [u] = (l ++ [u]) ++ rest := by
        simp only [setAt]
        rw [List.set_append_right _ _ (Nat.le_refl _), Nat.sub_self, List.set_cons_zero, List.append_assoc]; rfl
      rw [if_neg (by simp), hset]
      have ih := fillC_row places r (l ++ [u]) rest h hs.2 (fun i hi => hp i (by simp at hi ⊢; omega))
      simp only [List.length_append, List.length_cons, List.length_nil, Nat.zero_add] at ih
      rw [ih]; simp

/-- []T{x, y, ..}, elements of one cell -/
theorem yn_lit {t e : TypeId} {m bytes : Nat} {parts : Array (Nat × Operand)} {z : Value} {us : List Value} (ho : o.op = .buildSlice t m parts) (ht : P.underlying t = some (.slice e)) (hE' : Elt P e [z] bytes) (hzc : cn0 z = z) (hm : m ≤ 16777216)
    (hx : Opds E (parts.toList.map (·.2)) us) (hn : ∀ u ∈ us, ∀ z, u ≠ .tuple z) (hi : parts.toList.map (·.1) = List.range m) (hl : us.length = m) (hs : us.all scal = true) :
    YN P w0 O E o (fun b : Nat => .slice (some ⟨b, 0, none⟩) m m) (fun b => [⟨some ⟨b, 0, none⟩, us, m * 1, e⟩]) := by
  refine yn_buildSlice ho ht hE' (by simp [hzc]) (by simpa using hm) hx hn ?_ hs
  rw [hi]
  have := fillC_row ((List.range m).map fun i => (i * [z].length, [z].length)) us [] (cycle [z] m) (by rw [cycle_length, hl]; simp) hs (fun i hi => by
    have him : i < m := by simpa [hl] using hi
    simp [him])
  simpa [List.range_eq_range', hl] using this

/-! ### append -/
theorem scal_oneCell {vs : List Value} (h : vs.all scal = true) : ∀ u ∈ vs, u.oneCell' = true := by
  intro u hu
  have := List.all_eq_true.1 h u hu
  cases u <;> simp [scal] at this <;> rfl

theorem ent_cells {Bs : Nat} {w : World} {a : Option Addr} {us : List Value} {cap : Nat} {ty : TypeId} (h : Ent.at Bs w ⟨a, us, cap, ty⟩) (hs : us.all scal = true) :
    (us = [] ∧ cap = 0) ∨ ∃ b c vs, a = some ⟨b, 0, none⟩ ∧ Bs ≤ b ∧ Frz w b c ty ∧ c.size = cap ∧ us.length ≤ cap ∧ c.toList.take us.length = vs ∧ vs.map cn = us ∧ vs.all scal = true := by
  rcases h with h | ⟨b, c, h1, h2, h3, h4, h5, h6⟩
  · exact .inl h
  · refine .inr ⟨b, c, _, h1, h2, h3, h4, h5, rfl, ?_, ?_⟩
    · apply List.ext_getElem?
      intro j
      simp only [List.getElem?_map, List.getElem?_take]
      by_cases hj : j < us.length
      · rw [if_pos hj]
        obtain ⟨v, hv, hu⟩ := h6 j _ (List.getElem?_eq_getElem hj)
        rw [Array.getElem?_toList, hv, List.getElem?_eq_getElem hj]
        simp [hu]
      · rw [if_neg hj, List.getElem?_eq_none (by omega)]; rfl
    · rw [List.all_eq_true]
      intro v hv
      obtain ⟨j, hj⟩ := List.getElem?_of_mem hv
      rw [List.getElem?_take] at hj
      split at hj
      · rename_i hlt
        obtain ⟨v', hv', hu'⟩ := h6 j _ (List.getElem?_eq_getElem hlt)
        rw [Array.getElem?_toList, hv'] at hj
        cases hj
        have := List.all_eq_true.1 hs _ (List.getElem_mem hlt)
        rw [← hu'] at this
        cases v <;> simp [cn, cn1, scal] at this ⊢
      · cases hj

/-- append(s, x...) -/
theorem yc_append {s x : Operand} {t e : TypeId} {zero : List Value} {bytes : Nat} {a b : Option Addr} {m c m2 c2 cap : Nat} {us news : List Value} {O' : Option Addr × Nat → List Ent} (ho : o.op = .call ⟨.builtin .append, #[s, x], #[t, t]⟩) (ht : P.underlying t = some (.slice e)) (hE' : Elt P e zero bytes)
    (hs : E.opd s = some (.slice a m c)) (hx : E.opd x = some (.slice b m2 c2)) (hO : UpdF O ⟨a, us, cap, e⟩ (fun p : Option Addr × Nat => ⟨p.1, us ++ news, p.2 * zero.length, e⟩) O') (hsee : Sees w0 O b news) (hcap : cap = c * zero.length) (hus : us.length = m * zero.length) (hnews : news.length = m2 * zero.length) (hsu : us.all scal = true) (hsn : news.all scal = true)
    (hbd : (m + m2) * bytes ≤ 140737488355328) (hbd' : m + m2 ≤ 140737488355328) :
    YC P w0 O E o (fun p : Option Addr × Nat => .slice p.1 (m + m2) p.2) O' := by
  intro ρ w F hE hw
  have e1 := cn_slice (hE.get (x := s) (by simp [ho, Op.operands, Call.operands]) hs)
  have e2 := cn_slice (hE.get (x := x) (by simp [ho, Op.operands, Call.operands]) hx)
  have hcl := hsee w (hw.sub (List.sublist_append_right F O))
  obtain ⟨A, B, rfl, hO'⟩ := hO.parts
  simp only [hO']
  rw [← List.append_assoc] at hw
  simp only [← List.append_assoc]
  have hent := (hw.ents ⟨a, us, cap, e⟩ (by simp))
  have hlt0 : w0.heap.size ≤ w.heap.size := hw.below.size
  obtain ⟨i, z, h1, h2, h3, h4, h5, h6⟩ := hE'
  have hsz : z.cells.size = zero.length := by rw [← h3]; simp
  have hex : ∀ r, (Builtin.append_ #[t, t] o.type #[.slice a m c, .slice b m2 c2]).run P w = r → (execOp ρ o).run P w = r.andThen fun v w' => .ok (.value v) w' := by
    intro r hr
    simp [execOp, ho, e1, e2, resolve, invoke, builtin, hr]
  by_cases hm2 : m2 = 0
  · -- nothing is appended
    subst hm2
    have hn0 : news = [] := List.eq_nil_of_length_eq_zero (by simpa using hnews)
    subst hn0
    have hmc : m ≤ c := by
      rcases hent with h | ⟨_, _, _, _, _, _, h', _⟩
      · have := h.1; simp only at this; subst this
        have : m * zero.length = 0 := by simpa using hus.symm
        rcases mul_zero_cases this with h | h
        · omega
        · exact absurd h h6
      · simp only at h'
        rw [hus, hcap] at h'
        exact Nat.le_of_mul_le_mul_right h' (by omega)
    have hr : (Builtin.append_ #[t, t] o.type #[.slice a m c, .slice b 0 c2]).run P w = .ok (.slice a m c) w := by
      have hfc : (Builtin.firstCells zero.length 0 (.slice b 0 c2)).run P w = .ok #[] w := by
        cases b <;> simp [Builtin.firstCells, loadCells, loadCellsFrom]
      cases a with
      | none => simp [Builtin.append_, run_underlying ht, sizeOf, typeInfo, program, Sem.run, h1, h4, Builtin.lenOf, hmc, hfc]
      | some p => simp [Builtin.append_, run_underlying ht, sizeOf, typeInfo, program, Sem.run, h1, h4, Builtin.lenOf, hmc, hfc, storeCells]
    rw [hex _ hr]
    refine ⟨(a, c), rfl, ?_⟩
    simp only [List.append_nil, ← hcap]
    exact hw
  · have hb : ∃ q, b = some q ∧ q.spot = none := by
      rcases hcl with h | ⟨q, hq, hsp, _⟩
      · subst h
        have : m2 * zero.length = 0 := by simpa using hnews.symm
        rcases mul_zero_cases this with h | h
        · exact absurd h hm2
        · exact absurd h h6
      · exact ⟨q, hq, hsp⟩
    obtain ⟨q, rfl, hsp⟩ := hb
    obtain ⟨nv, n1, n2, n3⟩ := hcl.cellsN news 0 (fun j u hj => by simpa using hj)
    obtain ⟨_, n4⟩ := map_cn0_of n3 hsn
    have n2' : ∀ j u, nv[j]? = some u → w.cell? (q.add j) = some u := fun j u hj => by
      have := n2 j u hj
      rw [Nat.zero_add] at this
      rwa [adr_add hsp]
    have hnl : nv.length = m2 * i.size := by rw [n1, hnews, h4]
    rcases ent_cells hent hsu with h | ⟨g, cc, vs, g1, g2, g3, g4, g5, g6, g7, g8⟩
    · -- nothing is there yet
      obtain ⟨hus0, hcap0⟩ := h
      subst hus0
      have hm0 : m = 0 := by
        have : m * zero.length = 0 := by simpa using hus.symm
        rcases mul_zero_cases this with h | h
        · exact h
        · exact absurd h h6
      subst hm0
      have hc0 : c = 0 := by
        rw [hcap] at hcap0
        rcases mul_zero_cases hcap0 with h | h
        · exact h
        · exact absurd h h6
      subst hc0
      have hr : (Builtin.append_ #[t, t] o.type #[.slice a 0 0, .slice (some q) m2 c2]).run P w =
          .ok (.slice (some ⟨w.heap.size, 0, none⟩) m2 (grownCap w m2 0 e)) (w.drew.alloc (.cells (nv.toArray ++ Builtin.zeroCells z.cells (grownCap w m2 0 e - m2)) e)) := by
        cases a with
        | none => exact run_append_nil (P := P) w t o.type e i z ht h1 h2 q m2 c2 nv hnl n2' (by omega) (by omega) (by rw [h5]; rw [Nat.zero_add] at hbd; omega)
        | some p =>
          have := run_append_grow (P := P) w t o.type e i z ht h1 h2 p 0 0 [] (by simp) (by simp) q m2 c2 nv hnl n2' (by omega) (by omega) (growslice_fits (by omega) (by rw [h5]; omega))
          simpa using this
      rw [hex _ hr]
      refine ⟨(some ⟨w.heap.size, 0, none⟩, grownCap w m2 0 e), by simp [cn, cn1, cn0], ?_⟩
      have hge := grownCap_ge w m2 0 e
      refine Hp.turn (b := w.heap.size) hw (fun h => absurd hcap0 h) hlt0 (fun _ => Nat.le_refl _) (Turns.of_below ((Below.refl _ w).drew.alloc (Nat.le_refl _) _) _) (.inr ⟨w.heap.size, _, rfl, hlt0, heap_alloc_at w.drew _ e, ?_, ?_, ?_⟩) (fun _ p hp => by cases hp; exact .inl rfl)
      · simp only [Array.size_append, List.size_toArray, size_zeroCells, hsz, n1, hnews, ← Nat.add_mul]
        congr 1
        omega
      · simp only [List.nil_append, hnews]
        exact Nat.mul_le_mul_right _ hge
      · intro j u hj
        simp only [List.nil_append] at hj
        rw [← n3] at hj
        simp only [List.getElem?_map, Option.map_eq_some_iff] at hj
        obtain ⟨v, hv, hu⟩ := hj
        refine ⟨v, ?_, hu⟩
        rw [Array.getElem?_append_left (by simpa using (List.getElem?_eq_some_iff.1 hv).1)]
        simpa using hv
    · subst g1
      have hvl : vs.length = us.length := by rw [← g7, List.length_map]
      have hcapm : m ≤ c := by
        rw [hus, hcap] at g5
        exact Nat.le_of_mul_le_mul_right g5 (by omega)
      by_cases hroom : m + m2 ≤ c
      · -- in place
        have hmi : m * i.size = us.length := by rw [hus, h4]
        have hfit : us.length + nv.length ≤ cc.size := by rw [hnl, g4, hcap, ← hmi, h4, ← Nat.add_mul]; exact Nat.mul_le_mul_right _ hroom
        have hfull : Ent.at w0.heap.size w ⟨some ⟨g, 0, none⟩, cc.toList.map cn, cap, e⟩ := by
          refine .inr ⟨g, cc, rfl, g2, g3, g4, by simp [g4], fun j u hj => ?_⟩
          simp only [List.getElem?_map, Option.map_eq_some_iff, Array.getElem?_toList] at hj
          obtain ⟨v, hv, hu⟩ := hj
          exact ⟨v, hv, hu⟩
        obtain ⟨b', w', r1, r2, r3, r4⟩ := run_storeCells_ent (P := P) nv (cc.toList.map cn) 0 us.length w (some ⟨g, 0, none⟩) cap e n4 (by simpa using hfit) hfull
        have hbb : b' = g := by
          have hnv : nv ≠ [] := by
            intro h0
            rw [h0] at hnl
            have : m2 * i.size = 0 := by simpa using hnl.symm
            rcases mul_zero_cases this with h | h
            · exact hm2 h
            · exact h6 (by rw [← h4]; exact h)
          have := r2 hnv
          injection this with h; injection h with h; exact h.symm
        subst hbb
        have hfc : (Builtin.firstCells i.size m2 (.slice (some q) m2 c2)).run P w = .ok nv.toArray w := run_firstCells_some (P := P) w i.size m2 q m2 c2 nv hnl n2'
        have hr : (Builtin.append_ #[t, t] o.type #[.slice (some ⟨b', 0, none⟩) m c, .slice (some q) m2 c2]).run P w = .ok (.slice (some ⟨b', 0, none⟩) (m + m2) c) w' := by
          have r1' : (storeCells ((⟨b', 0, none⟩ : Addr).add (m * i.size)) nv).run P w = .ok () w' := by rw [hmi, adr_add (p := ⟨b', 0, none⟩) rfl]; exact r1
          simp [Builtin.append_, run_underlying ht, sizeOf, typeInfo, program, Sem.run, h1, Builtin.lenOf, hroom, hfc, r1']
        rw [hex _ hr]
        refine ⟨(some ⟨b', 0, none⟩, c), by simp [cn, cn1, cn0], ?_⟩
        have r5 : Ent.at w0.heap.size w' ⟨some ⟨b', 0, none⟩, us ++ news, c * zero.length, e⟩ := by
          rw [← hcap]
          rcases r4 with h | ⟨b2, c2', k1, k2, k3, k4, k5, k6⟩
          · exfalso
            have h := h.1
            simp only at h
            have := congrArg List.length h
            rw [setAt_length, List.length_map, Array.length_toList, List.length_nil] at this
            have hn1 : 0 < nv.length := by
              rw [hnl, h4]; exact Nat.mul_pos (by omega) (by omega)
            omega
          · refine .inr ⟨b2, c2', k1, k2, k3, k4, ?_, fun j u hj => k6 j u ?_⟩
            · simp only [List.length_append]
              rw [← n3, List.length_map]
              omega
            · simp only at hj ⊢
              rw [setAt_nth _ _ _ _ (by simpa using hfit)]
              have hjl := (List.getElem?_eq_some_iff.1 hj).1
              simp only [List.length_append] at hjl
              rw [← n3] at hj hjl
              by_cases hju : j < us.length
              · rw [if_neg (by omega)]
                rw [List.getElem?_append_left hju, ← g7, ← g6] at hj
                rw [List.map_take, List.getElem?_take, if_pos hju] at hj
                exact hj
              · rw [if_pos (by simp only [Nat.add_zero]; omega)]
                rw [List.getElem?_append_right (by omega)] at hj
                exact hj
        refine Hp.turn (b := b') hw (fun _ => ⟨_, rfl, rfl⟩) g2 (fun h => ?_) r3 r5 (fun _ p hp => by cases hp; exact .inl rfl)
        exact absurd h (by
          simp only
          rw [hcap]
          intro h
          rcases mul_zero_cases h with h | h
          · omega
          · exact h6 h)
      · have holds : ∀ j u, vs[j]? = some u → w.cell? ((⟨g, 0, none⟩ : Addr).add j) = some u := fun j u hj => by
          rw [adr_add rfl]
          rw [← g6, List.getElem?_take] at hj
          split at hj
          · rw [show adr (some ⟨g, 0, none⟩) j = ⟨g, j, none⟩ from by simp [adr], g3.cell]
            simpa using hj
          · cases hj
        have hr := run_append_grow (P := P) w t o.type e i z ht h1 h2 ⟨g, 0, none⟩ m c vs (by rw [hvl, hus, h4]) holds q m2 c2 nv hnl n2' (by omega) (by omega) (growslice_fits (by omega) (by rw [h5]; omega))
        rw [hex _ hr]
        refine ⟨(some ⟨w.heap.size, 0, none⟩, grownCap w (m + m2) c e), by simp [cn, cn1, cn0], ?_⟩
        have hge := grownCap_ge w (m + m2) c e
        have hbel : Below w.heap.size w (w.drew.alloc (.cells (vs.toArray ++ nv.toArray ++ Builtin.zeroCells z.cells (grownCap w (m + m2) c e - (m + m2))) e)) := (Below.refl _ w).drew.alloc (Nat.le_refl _) _
        have hg : g < w.heap.size := g3.lt
        have hnew : Ent.at w0.heap.size (w.drew.alloc (.cells (vs.toArray ++ nv.toArray ++ Builtin.zeroCells z.cells (grownCap w (m + m2) c e - (m + m2))) e)) ⟨some ⟨w.heap.size, 0, none⟩, us ++ news, grownCap w (m + m2) c e * zero.length, e⟩ := by
          refine .inr ⟨w.heap.size, _, rfl, hlt0, heap_alloc_at w.drew _ e, ?_, ?_, ?_⟩
          · simp only [Array.size_append, List.size_toArray, size_zeroCells, hsz, n1, hnews, hvl, hus, ← Nat.add_mul]
            congr 1
            omega
          · simp only [List.length_append, hus, hnews, ← Nat.add_mul]
            exact Nat.mul_le_mul_right _ hge
          · intro j u hj
            simp only at hj
            rw [← g7, ← n3, ← List.map_append, List.getElem?_map, Option.map_eq_some_iff] at hj
            obtain ⟨v, hv, hu⟩ := hj
            refine ⟨v, ?_, hu⟩
            have hjl := (List.getElem?_eq_some_iff.1 hv).1
            rw [Array.getElem?_append_left (by simpa using hjl)]
            rw [← List.getElem?_toArray] at hv
            simpa using hv
        by_cases hc0 : c = 0
        · have hz : cap = 0 := by rw [hcap, hc0, Nat.zero_mul]
          exact Hp.turn (b := w.heap.size) hw (fun h => absurd hz h) hlt0 (fun _ => Nat.le_refl _) (Turns.of_below hbel _) hnew (fun _ p hp => by cases hp; exact .inl rfl)
        · exact Hp.turn (b := g) hw (fun _ => ⟨_, rfl, rfl⟩) g2 (fun h => absurd h (by
            simp only
            rw [hcap]
            intro h
            rcases mul_zero_cases h with h | h
            · exact hc0 h
            · exact h6 h)) (Turns.of_below hbel _) hnew (fun _ p hp => by cases hp; exact .inr (Nat.le_refl _))
/-- .. the element's size as a numeral -/
theorem yc_appendz {s x : Operand} {t e : TypeId} {zero : List Value} {bytes : Nat} {a b : Option Addr} {m c m2 c2 cap : Nat} {us news : List Value} {O' : Option Addr × Nat → List Ent} (z : Nat) (hz : zero.length = z) (ho : o.op = .call ⟨.builtin .append, #[s, x], #[t, t]⟩) (ht : P.underlying t = some (.slice e)) (hE' : Elt P e zero bytes)
    (hs : E.opd s = some (.slice a m c)) (hx : E.opd x = some (.slice b m2 c2)) (hO : UpdF O ⟨a, us, cap, e⟩ (fun p : Option Addr × Nat => ⟨p.1, us ++ news, p.2 * z, e⟩) O') (hsee : Sees w0 O b news) (hcap : cap = c * z) (hus : us.length = m * z) (hnews : news.length = m2 * z) (hsu : us.all scal = true) (hsn : news.all scal = true)
    (hbd : (m + m2) * bytes ≤ 140737488355328) (hbd' : m + m2 ≤ 140737488355328) :
    YC P w0 O E o (fun p : Option Addr × Nat => .slice p.1 (m + m2) p.2) O' := by
  subst hz
  exact yc_append ho ht hE' hs hx hO hsee hcap hus hnews hsu hsn hbd hbd'
theorem yn_makeSlicez {t e : TypeId} {x y : Operand} {m bytes : Nat} {zero : List Value} (z : Nat) (hz : zero.length = z) (ho : o.op = .makeSlice t x y) (ht : P.underlying t = some (.slice e)) (hE' : Elt P e zero bytes) (hzc : zero.map cn = zero)
    (hx : E.opd x = some (.int .i64 m)) (hy : E.opd y = some (.int .i64 m)) (hm : m * bytes ≤ 140737488355328) (hm' : m ≤ 140737488355328) :
    YN P w0 O E o (fun b : Nat => .slice (some ⟨b, 0, none⟩) m m) (fun b => [⟨some ⟨b, 0, none⟩, cycle zero m, m * z, e⟩]) := by
  subst hz
  exact yn_makeSlice ho ht hE' hzc hx hy hm hm'
end
end Go.Proofs.Ytacjcomjnabmhaa
