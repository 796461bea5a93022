/- Parts of slices, copy, clear, append in place; unsigned numbers. -/
import Derived.Test.YtacjcomjnabmhaaKit
namespace Go.Proofs.Ytacjcomjnabmhaa
open Go.RowKit

/-- The address of a part. -/
def slA (a : Option Addr) (l mm z : Nat) : Option Addr := if mm = l then a else a.map (·.add (l * z))
theorem slA_zero {b : Nat} {mm z : Nat} : slA (some ⟨b, 0, none⟩) 0 mm z = some ⟨b, 0, none⟩ := by
  unfold slA; split
  · rfl
  · simp [Addr.add]
theorem slA_some {b l mm z : Nat} (h : l < mm) : slA (some ⟨b, 0, none⟩) l mm z = some ⟨b, l * z, none⟩ := by
  unfold slA; rw [if_neg (by omega), Option.map_some, adr_add (p := ⟨b, 0, none⟩) rfl]
  simp [adr]
theorem slA_none {l mm z : Nat} : slA none l mm z = none := by unfold slA; split <;> rfl
theorem Cl.part {w : World} {a : Option Addr} {us : List Value} (h : Cl w a us) {l hh mm z : Nat} (h1 : hh ≤ mm) : Cl w (slA a l mm z) ((us.drop (l * z)).take ((hh - l) * z)) := by
  by_cases hm : mm = l
  · have : hh - l = 0 := by omega
    rw [this, Nat.zero_mul, List.take_zero]
    exact .inl rfl
  · unfold slA
    rw [if_neg hm]
    rcases h with h | ⟨p, rfl, hsp, h⟩
    · subst h; simp; exact .inl rfl
    · refine .inr ⟨p.add (l * z), rfl, ?_, fun i u hu => ?_⟩
      · rw [adr_add hsp]; rfl
      · rw [List.getElem?_take] at hu
        split at hu
        · rw [List.getElem?_drop] at hu
          obtain ⟨v, hv, he⟩ := h _ _ hu
          refine ⟨v, ?_, he⟩
          rw [adr_add hsp]
          simp only [adr]
          rw [show p.off + l * z + i = p.off + (l * z + i) by omega]
          exact hv
        · cases hu
theorem Sees.part {w0 : World} {O : List Ent} {a : Option Addr} {us : List Value} (h : Sees w0 O a us) {l hh mm z : Nat} (h1 : hh ≤ mm) : Sees w0 O (slA a l mm z) ((us.drop (l * z)).take ((hh - l) * z)) := fun w hw => (h w hw).part h1

section
variable {P : Program} {n : Nat} {w0 : World} {O : List Ent} {E : Env} {o : Oper}

/-- A bound of a part: none, or a number. -/
def OptI (E : Env) (x : Option Operand) (d v : Nat) : Prop := (x = none ∧ v = d) ∨ ∃ y k, x = some y ∧ E.opd y = some (.int k (v : Int))
theorem OptI.no {d : Nat} : OptI E none d d := .inl ⟨rfl, rfl⟩
theorem OptI.at {y : Operand} {k : IntKind} {i : Int} {d v : Nat} (h : E.opd y = some (.int k i)) (hi : i = (v : Int)) : OptI E (some y) d v := .inr ⟨y, k, rfl, by rw [h, hi]⟩

theorem run_bound {k : IntKind} {v y : Nat} (h : v ≤ y) (code : BoundsCode) (w : World) : (Instr.sliceBound (.int k (v : Int)) y code).run P w = .ok v w := by
  simp [Instr.sliceBound, asIntOf, h]

theorem yr_slice {t e : TypeId} {x : Operand} {lo hi mx : Option Operand} {a : Option Addr} {m c l hh mm z : Nat} (ho : o.op = .slice t x lo hi mx) (ht : P.underlying t = some (.slice e)) (hz : (P.info? e).map (·.size) = some z)
    (hx : E.opd x = some (.slice a m c)) (hlo : OptI E lo 0 l) (hhi : OptI E hi m hh) (hmx : OptI E mx c mm) (h1 : mm ≤ c) (h2 : hh ≤ mm) (h3 : l ≤ hh) (h4 : mx = none ∨ hi ≠ none) (hmc : hi = none → m ≤ c) :
    YR P E o (.slice (slA a l mm z) (hh - l) (mm - l)) := yr_of fun ρ w hE => by
  have e1 := cn_slice (hE.get (x := x) (by simp [ho, Op.operands]) hx)
  have key : ∀ (y : Option Operand) (d v : Nat), OptI E y d v → (∀ q, y = some q → q ∈ o.op.operands) → (y = none ∧ v = d) ∨ ∃ q k, y = some q ∧ ρ q = .int k (v : Int) := by
    intro y d v hy hm
    rcases hy with h | ⟨q, k, rfl, hq⟩
    · exact .inl h
    · exact .inr ⟨q, k, rfl, cn_int (hE.get (hm q rfl) hq)⟩
  have k1 := key lo 0 l hlo (fun q hq => by subst hq; simp [ho, Op.operands])
  have k2 := key hi m hh hhi (fun q hq => by subst hq; simp [ho, Op.operands])
  have k3 := key mx c mm hmx (fun q hq => by subst hq; simp [ho, Op.operands])
  refine ⟨.slice (slA a l mm z) (hh - l) (mm - l), ?_, rfl⟩
  have hb : ∀ (y d v : Nat) (k : IntKind) (code : BoundsCode), v ≤ y → (Instr.sliceBound (.int k (v : Int)) y code).run P w = .ok v w := fun y d v k code h => run_bound h code w
  rcases k3 with ⟨rfl, rfl⟩ | ⟨q3, t3, rfl, e3⟩
  · rcases k2 with ⟨rfl, rfl⟩ | ⟨q2, t2, rfl, e2⟩
    · rcases k1 with ⟨rfl, rfl⟩ | ⟨q1, t1, rfl, e1'⟩
      · simp [execOp, ho, e1, Instr.sliceAt, Instr.slice, Instr.sliceBounds, run_underlying ht, info_size hz, slA]
      · simp [execOp, ho, e1, e1', Instr.sliceAt, Instr.slice, Instr.sliceBounds, run_underlying ht, info_size hz, run_bound h3, slA]
    · rcases k1 with ⟨rfl, rfl⟩ | ⟨q1, t1, rfl, e1'⟩
      · simp [execOp, ho, e1, e2, Instr.sliceAt, Instr.slice, Instr.sliceBounds, run_underlying ht, info_size hz, run_bound h2, slA]
      · simp [execOp, ho, e1, e2, e1', Instr.sliceAt, Instr.slice, Instr.sliceBounds, run_underlying ht, info_size hz, run_bound h2, run_bound h3, slA]
  · rcases k2 with ⟨rfl, rfl⟩ | ⟨q2, t2, rfl, e2⟩
    · rcases h4 with h | h
      · cases h
      · exact absurd rfl h
    · rcases k1 with ⟨rfl, rfl⟩ | ⟨q1, t1, rfl, e1'⟩
      · simp [execOp, ho, e1, e2, e3, Instr.sliceAt, Instr.slice, Instr.sliceBounds, run_underlying ht, info_size hz, run_bound h1, run_bound h2, slA]
      · simp [execOp, ho, e1, e2, e3, e1', Instr.sliceAt, Instr.slice, Instr.sliceBounds, run_underlying ht, info_size hz, run_bound h1, run_bound h2, run_bound h3, slA]

/-- A row of cells is written into a block that is known. -/
theorem Hp.write {A B : List Ent} {a : Option Addr} {us : List Value} {cap : Nat} {ty : TypeId} {w : World} (hw : Hp w0 (A ++ ⟨a, us, cap, ty⟩ :: B) w) (vs : List Value) (k : Nat) (hs : vs.all scal = true) (hk : k + vs.length ≤ us.length) (hne : vs ≠ []) :
    ∃ w', (storeCells (adr a k) vs).run P w = .ok () w' ∧ Hp w0 (A ++ ⟨a, setAt us k (vs.map cn), cap, ty⟩ :: B) w' := by
  have hent := hw.ents ⟨a, us, cap, ty⟩ (by simp)
  have hl : 0 < vs.length := List.length_pos_iff.2 hne
  have hcap : cap ≠ 0 := by
    rcases hent with h | ⟨_, _, _, _, _, _, h5, _⟩
    · have := h.1; simp only at this; subst this; simp only [List.length_nil] at hk; omega
    · simp only at h5; omega
  obtain ⟨b0, hb0, hge⟩ := hent.addr hcap
  obtain ⟨b, w', r1, r2, r3, r4⟩ := run_storeCells_ent (P := P) vs us 0 k w a cap ty hs (by omega) hent
  have hbb : b = b0 := by
    have := r2 hne
    simp only at hb0
    rw [this] at hb0
    simpa using hb0
  subst hbb
  refine ⟨w', r1, ?_⟩
  simp only [Nat.add_zero] at r4
  exact Hp.turn hw (fun _ => ⟨_, hb0, rfl⟩) hge (fun h => absurd h hcap) r3 r4 (fun _ p hp => .inl (by simp only at hp hb0; rw [hb0] at hp; cases hp; rfl))

theorem run_firstCells {sz : Nat} {b : Option Addr} {m2 c2 k : Nat} {news : List Value} {w : World} (hc : Cl w b news) (hl : news.length = k * sz) (hs : news.all scal = true) : ∃ vs : List Value, (Builtin.firstCells sz k (.slice b m2 c2)).run P w = .ok vs.toArray w ∧ vs.map cn = news ∧ vs.all scal = true := by
  obtain ⟨nv, n1, n2, n3⟩ := hc.cellsN news 0 (fun j u hj => by simpa using hj)
  obtain ⟨n5, n4⟩ := map_cn0_of n3 hs
  rcases hc with h | ⟨p, rfl, hsp, _⟩
  · subst h
    have h0 : k * sz = 0 := by simpa using hl.symm
    refine ⟨[], ?_, rfl, rfl⟩
    cases b <;> simp [Builtin.firstCells, loadCells, loadCellsFrom, h0]
  · refine ⟨nv, ?_, n3, n4⟩
    have hload := run_loadCells_adr (P := P) (w := w) (a := some p) (k := 0) nv n2
    rw [← adr_add hsp] at hload
    have e0 : p.add 0 = p := by rw [adr_add hsp]; cases p; simp only at hsp; subst hsp; rfl
    rw [e0, n1, hl] at hload
    simp [Builtin.firstCells, hload]

/-- copy(d, s): d is a part of a block of the call's own. -/
theorem yc_copy {d s : Operand} {t t2 e : TypeId} {z : Nat} {a b : Option Addr} {k dl dc sl sc cap q : Nat} {ty : TypeId} {us us' news : List Value} {O' : Unit → List Ent} (ho : o.op = .call ⟨.builtin .copy, #[d, s], #[t, t2]⟩) (ht : P.underlying t = some (.slice e)) (hz : (P.info? e).map (·.size) = some z)
    (hd : E.opd d = some (.slice (some (adr a k)) dl dc)) (hs : E.opd s = some (.slice b sl sc)) (hq : min sl dl = q) (hO : UpdF O ⟨a, us, cap, ty⟩ (fun _ : Unit => ⟨a, us', cap, ty⟩) O') (hsee : Sees w0 O b news) (hnl : news.length = q * z) (hns : news.all scal = true) (hk : k + q * z ≤ us.length) (hus : setAt us k news = us') :
    YC P w0 O E o (fun _ : Unit => .int .i64 q) O' := by
  intro ρ w F hE hw
  have e1 := cn_slice (hE.get (x := d) (by simp [ho, Op.operands, Call.operands]) hd)
  have e2 := cn_slice (hE.get (x := s) (by simp [ho, Op.operands, Call.operands]) hs)
  have hcl := hsee w (hw.sub (List.sublist_append_right F O))
  obtain ⟨vs, g1, g2, g3⟩ := run_firstCells (P := P) (sz := z) (m2 := sl) (c2 := sc) hcl hnl hns
  obtain ⟨A, B, rfl, hO'⟩ := hO.parts
  simp only [hO']
  rw [← List.append_assoc] at hw
  simp only [← List.append_assoc]
  have hvl : vs.length = news.length := by rw [← g2, List.length_map]
  have hlen : (Builtin.lenOf (.slice b sl sc)).run P w = .ok sl w := by simp [Builtin.lenOf]
  have hmin : Nat.min sl dl = q := hq
  by_cases hne : vs = []
  · subst hne
    have hn0 : news = [] := by rw [← g2]; rfl
    subst hn0
    have hr : (execOp ρ o).run P w = .ok (.value (goInt q)) w := by
      simp [execOp, ho, e1, e2, resolve, invoke, builtin, Builtin.copy_, run_underlying ht, info_size hz, hlen, hmin, g1, storeCells]
    rw [hr]
    refine ⟨(), rfl, ?_⟩
    have : us' = us := hus.symm
    rw [this]
    exact hw
  · obtain ⟨w', r1, r2⟩ := Hp.write (P := P) hw vs k g3 (by omega) hne
    have hr : (execOp ρ o).run P w = .ok (.value (goInt q)) w' := by
      simp [execOp, ho, e1, e2, resolve, invoke, builtin, Builtin.copy_, run_underlying ht, info_size hz, hlen, hmin, g1, r1]
    rw [hr]
    refine ⟨(), rfl, ?_⟩
    rw [g2, hus] at r2
    exact r2

/-- append(s, x...) where there is room: in place; x may be a part of the same block. -/
theorem yc_appendRoom {s x : Operand} {t e : TypeId} {z : Nat} {a b : Option Addr} {m c m2 c2 cap r : Nat} {us us' news : List Value} {O' : Unit → List Ent} (ho : o.op = .call ⟨.builtin .append, #[s, x], #[t, t]⟩) (ht : P.underlying t = some (.slice e)) (hz : (P.info? e).map (·.size) = some z)
    (hs : E.opd s = some (.slice a m c)) (hx : E.opd x = some (.slice b m2 c2)) (hO : UpdF O ⟨a, us, cap, e⟩ (fun _ : Unit => ⟨a, us', cap, e⟩) O') (hsee : Sees w0 O b news) (hcap : cap ≠ 0) (hr0 : m + m2 = r) (hroom : r ≤ c) (hnl : news.length = m2 * z) (hns : news.all scal = true) (hk : m * z + m2 * z ≤ us.length) (hus : setAt us (m * z) news = us') :
    YC P w0 O E o (fun _ : Unit => .slice a r c) O' := by
  subst hr0
  intro ρ w F hE hw
  have e1 := cn_slice (hE.get (x := s) (by simp [ho, Op.operands, Call.operands]) hs)
  have e2 := cn_slice (hE.get (x := x) (by simp [ho, Op.operands, Call.operands]) hx)
  have hcl := hsee w (hw.sub (List.sublist_append_right F O))
  obtain ⟨vs, g1, g2, g3⟩ := run_firstCells (P := P) (sz := z) (m2 := m2) (c2 := c2) hcl hnl hns
  obtain ⟨A, B, rfl, hO'⟩ := hO.parts
  simp only [hO']
  rw [← List.append_assoc] at hw
  simp only [← List.append_assoc]
  obtain ⟨b0, hb0, hge⟩ := (hw.ents ⟨a, us, cap, e⟩ (by simp)).addr hcap
  simp only at hb0
  subst hb0
  have hvl : vs.length = news.length := by rw [← g2, List.length_map]
  have hex : ∀ w', (storeCells ((⟨b0, 0, none⟩ : Addr).add (m * z)) vs).run P w = .ok () w' → (execOp ρ o).run P w = .ok (.value (.slice (some ⟨b0, 0, none⟩) (m + m2) c)) w' := by
    intro w' hr
    simp [execOp, ho, e1, e2, resolve, invoke, builtin, Builtin.append_, run_underlying ht, info_size hz, Builtin.lenOf, hroom, g1, hr]
  by_cases hne : vs = []
  · subst hne
    have hn0 : news = [] := by rw [← g2]; rfl
    subst hn0
    rw [hex w (by simp [storeCells])]
    refine ⟨(), rfl, ?_⟩
    have : us' = us := hus.symm
    rw [this]
    exact hw
  · obtain ⟨w', r1, r2⟩ := Hp.write (P := P) hw vs (m * z) g3 (by omega) hne
    rw [hex w' (by rw [adr_add (p := ⟨b0, 0, none⟩) rfl]; exact r1)]
    refine ⟨(), rfl, ?_⟩
    rw [g2, hus] at r2
    exact r2

/-- clear(x): x is a part of a block of the call's own, of elements of one cell. -/
theorem yc_clear {x : Operand} {t e : TypeId} {zv : Value} {bytes : Nat} {a : Option Addr} {k m c cap : Nat} {ty : TypeId} {us us' : List Value} {O' : Unit → List Ent} (ho : o.op = .call ⟨.builtin .clear, #[x], #[t]⟩) (ht : P.underlying t = some (.slice e)) (hz : Elt P e [zv] bytes)
    (hx : E.opd x = some (.slice (some (adr a k)) (m + 1) c)) (hO : UpdF O ⟨a, us, cap, ty⟩ (fun _ : Unit => ⟨a, us', cap, ty⟩) O') (hzs : scal zv = true) (hzc : cn zv = zv) (hk : k + (m + 1) ≤ us.length) (hus : setAt us k (List.replicate (m + 1) zv) = us') :
    YC P w0 O E o (fun _ : Unit => .tuple #[]) O' := by
  intro ρ w F hE hw
  have e1 := cn_slice (hE.get (x := x) (by simp [ho, Op.operands, Call.operands]) hx)
  obtain ⟨A, B, rfl, hO'⟩ := hO.parts
  simp only [hO']
  rw [← List.append_assoc] at hw
  simp only [← List.append_assoc]
  obtain ⟨i, zz, h1, h2, h3, h4, h5, h6⟩ := hz
  have hz1 : zz.cells = #[zv] := by
    have := congrArg List.toArray h3
    simpa using this
  have hzc' : (Builtin.zeroCells zz.cells (m + 1)).toList = List.replicate (m + 1) zv := by
    rw [hz1]
    apply List.ext_getElem?
    intro j
    simp only [Builtin.zeroCells, List.size_toArray, List.length_cons, List.length_nil, Nat.zero_add, Nat.mul_one, Array.toList_map, Array.toList_range, List.getElem?_map, List.getElem?_replicate, Nat.mod_one]
    by_cases hj : j < m + 1
    · rw [if_pos hj, List.getElem?_eq_getElem (by simpa using hj)]; simp
    · rw [if_neg hj, List.getElem?_eq_none (by simp; omega)]; rfl
  obtain ⟨w', r1, r2⟩ := Hp.write (P := P) hw (List.replicate (m + 1) zv) k (by simp [hzs]) (by simpa using hk) (by simp [List.replicate_succ])
  have hr : (execOp ρ o).run P w = .ok (.value (.tuple #[])) w' := by
    simp [execOp, ho, e1, resolve, invoke, builtin, Builtin.clear_, run_underlying ht, zeroValue, typeInfo, program, Sem.run, h1, h2, hzc', r1]
  rw [hr]
  refine ⟨(), by simp [cn], ?_⟩
  rw [List.map_replicate, hzc, hus] at r2
  exact r2

/-! ### bits of unsigned numbers -/
theorem yr_bits {op : BinOp} {t ty : TypeId} {x y : Operand} {k : IntKind} {a b r : Int} (ho : o.op = .binOp op t x y ty) (hx : E.opd x = some (.int k a)) (hy : E.opd y = some (.int k b))
    (hr : (op = .and ∧ k.wrap (((a % 2 ^ k.bits).toNat &&& (b % 2 ^ k.bits).toNat : Nat) : Int) = r) ∨ (op = .or ∧ k.wrap (((a % 2 ^ k.bits).toNat ||| (b % 2 ^ k.bits).toNat : Nat) : Int) = r)) : YR P E o (.int k r) := yr_of fun ρ w hE => by
  have h1 := cn_int (hE.get (x := x) (by simp [ho, Op.operands]) hx)
  have h2 := cn_int (hE.get (x := y) (by simp [ho, Op.operands]) hy)
  refine ⟨.int k r, ?_, rfl⟩
  rcases hr with ⟨rfl, hr⟩ | ⟨rfl, hr⟩ <;> simp [execOp, ho, h1, h2, eqGuard, binOp, Op.intBits, hr]
theorem yr_shr {t ty : TypeId} {x y : Operand} {k k2 : IntKind} {a r : Int} {b : Nat} (ho : o.op = .binOp .shr t x y ty) (hx : E.opd x = some (.int k a)) (hy : E.opd y = some (.int k2 (b : Int)))
    (hr : a.fdiv (2 ^ (min b k.bits)) = r) : YR P E o (.int k r) := yr_of fun ρ w hE => by
  have h1 := cn_int (hE.get (x := x) (by simp [ho, Op.operands]) hx)
  have h2 := cn_int (hE.get (x := y) (by simp [ho, Op.operands]) hy)
  refine ⟨.int k r, ?_, rfl⟩
  have h3 : ¬ ((b : Int) < 0) := by omega
  simp [execOp, ho, h1, h2, eqGuard, binOp, Op.shift, h3, hr]
theorem yr_shl {t ty : TypeId} {x y : Operand} {k k2 : IntKind} {a r : Int} {b : Nat} (ho : o.op = .binOp .shl t x y ty) (hx : E.opd x = some (.int k a)) (hy : E.opd y = some (.int k2 (b : Int)))
    (hr : k.wrap (a * 2 ^ (min b k.bits)) = r) : YR P E o (.int k r) := yr_of fun ρ w hE => by
  have h1 := cn_int (hE.get (x := x) (by simp [ho, Op.operands]) hx)
  have h2 := cn_int (hE.get (x := y) (by simp [ho, Op.operands]) hy)
  refine ⟨.int k r, ?_, rfl⟩
  have h3 : ¬ ((b : Int) < 0) := by omega
  simp [execOp, ho, h1, h2, eqGuard, binOp, Op.shift, h3, hr]

/-! ### parts of a block of the call's own -/
theorem slA_adr {b l mm z : Nat} (h : l < mm) : slA (some ⟨b, 0, none⟩) l mm z = some (adr (some ⟨b, 0, none⟩) (l * z)) := by
  rw [slA_some h]; simp [adr]
theorem yr_tail {t e : TypeId} {x y : Operand} {b m c l z : Nat} {k : IntKind} {i : Int} (ho : o.op = .slice t x (some y) none none) (ht : P.underlying t = some (.slice e)) (hz : (P.info? e).map (·.size) = some z)
    (hx : E.opd x = some (.slice (some ⟨b, 0, none⟩) m c)) (hy : E.opd y = some (.int k i)) (hi : i = (l : Int)) (hl : l < c) (hlm : l ≤ m) (hmc : m ≤ c) : YR P E o (.slice (some (adr (some ⟨b, 0, none⟩) (l * z))) (m - l) (c - l)) := by
  rw [← slA_adr hl]
  exact yr_slice ho ht hz hx (.at hy hi) .no .no (Nat.le_refl _) hmc hlm (.inl rfl) (fun _ => hmc)
theorem yr_head {t e : TypeId} {x y : Operand} {b m c l z : Nat} {k : IntKind} {i : Int} (ho : o.op = .slice t x none (some y) none) (ht : P.underlying t = some (.slice e)) (hz : (P.info? e).map (·.size) = some z)
    (hx : E.opd x = some (.slice (some ⟨b, 0, none⟩) m c)) (hy : E.opd y = some (.int k i)) (hi : i = (l : Int)) (hl : l ≤ c) : YR P E o (.slice (some ⟨b, 0, none⟩) l c) := by
  have h := yr_slice (P := P) (E := E) ho ht hz hx .no (.at hy hi) .no (Nat.le_refl _) hl (Nat.zero_le _) (.inl rfl) (fun h => by cases h)
  rwa [slA_zero] at h
theorem yr_part {t e : TypeId} {x y y2 : Operand} {b m c l hh z len cp : Nat} {k k2 : IntKind} {i i2 : Int} (ho : o.op = .slice t x (some y) (some y2) none) (ht : P.underlying t = some (.slice e)) (hz : (P.info? e).map (·.size) = some z)
    (hx : E.opd x = some (.slice (some ⟨b, 0, none⟩) m c)) (hy : E.opd y = some (.int k i)) (hi : i = (l : Int)) (hy2 : E.opd y2 = some (.int k2 i2)) (hi2 : i2 = (hh : Int)) (hl : l < c) (hlm : l ≤ hh) (hmc : hh ≤ c) (hlen : hh - l = len) (hcp : c - l = cp) : YR P E o (.slice (some (adr (some ⟨b, 0, none⟩) (l * z))) len cp) := by
  subst hlen; subst hcp
  rw [← slA_adr hl]
  exact yr_slice ho ht hz hx (.at hy hi) (.at hy2 hi2) .no (Nat.le_refl _) hmc hlm (.inl rfl) (fun h => by cases h)
theorem Sees.take {a : Option Addr} {us : List Value} (q : Nat) (h : Sees w0 O a us) : Sees w0 O a (us.take q) := fun w hw => (h w hw).sub _ (fun i u hu => by
  rw [List.getElem?_take] at hu
  split at hu
  · exact hu
  · cases hu)
theorem Sees.drop {b : Nat} {us : List Value} (q : Nat) (h : Sees w0 O (some ⟨b, 0, none⟩) us) : Sees w0 O (some (adr (some ⟨b, 0, none⟩) q)) (us.drop q) := fun w hw => by
  rcases h w hw with h | ⟨p, hp, hsp, h⟩
  · subst h; simp; exact .inl rfl
  · cases hp
    refine .inr ⟨_, rfl, rfl, fun i u hu => ?_⟩
    rw [List.getElem?_drop] at hu
    obtain ⟨v, hv, he⟩ := h _ _ hu
    refine ⟨v, ?_, he⟩
    simp only [adr, Nat.zero_add] at hv ⊢
    exact hv
/-- A block that is known lies at the head of a block. -/
theorem VX.addr {a : Option Addr} {us : List Value} {cap : Nat} {ty : TypeId} {R : Act → World → Prop} (hm : (⟨a, us, cap, ty⟩ : Ent) ∈ O) (hc : us ≠ []) (h : ∀ b, a = some ⟨b, 0, none⟩ → us.length ≤ cap → VX n w0 O E R) : VX n w0 O E R := by
  intro act w ha hw
  rcases hw.ents _ hm with h1 | ⟨b, c, h1, _, _, _, h5, _⟩
  · exact absurd h1.1 hc
  · exact h b h1 h5 act w ha hw
end
theorem wrapu {i : Int} (h0 : 0 ≤ i) (h : i ≤ 18446744073709551615) : IntKind.u64.wrap i = i := by
  unfold IntKind.wrap
  simp [IntKind.bits, IntKind.signed]
  omega
theorem le8 {Q : Nat → Prop} {m : Nat} (hm : m ≤ 8) (h : ∀ i : Fin 9, Q i) : Q m := h ⟨m, by omega⟩
end Go.Proofs.Ytacjcomjnabmhaa
