/- Wires: their cells, what each owns, what is valid, their field. -/
import Derived.Test.YtacjcomjnabmhaaVec
import Derived.Test.YtacjcomjnabmhaaDesign
import Derived.Test.YtacjcomjnabmhaaNest
namespace Go.Proofs.Ytacjcomjnabmhaa
open Go.RowKit

abbrev Wr := List V3 × Bool × Nat
def zw : Wr := ([], false, 0)
def wcs (p : Option Addr × Nat) (w : Wr) : List Value := [.slice p.1 w.1.length p.2, .bool w.2.1, .float .f32 w.2.2]
def whdF (f : Nat → Option Addr × Nat) : Nat → List Wr → List Value
  | _, [] => []
  | i, w :: ws => .slice (f i).1 w.1.length (f i).2 :: .bool w.2.1 :: .float .f32 w.2.2 :: whdF f (i + 1) ws
def whd (f : Nat → Option Addr × Nat) (ws : List Wr) : List Value := whdF f 0 ws
theorem whdF_length (f : Nat → Option Addr × Nat) : ∀ (ws : List Wr) (i : Nat), (whdF f i ws).length = ws.length * 3
  | [], _ => rfl
  | w :: ws, i => by simp only [whdF, List.length_cons, whdF_length f ws]; omega
theorem whd_length (f : Nat → Option Addr × Nat) (ws : List Wr) : (whd f ws).length = ws.length * 3 := whdF_length f ws 0
theorem whdF_scal (f : Nat → Option Addr × Nat) : ∀ (ws : List Wr) (i : Nat), (whdF f i ws).all scal = true
  | [], _ => rfl
  | w :: ws, i => by simp only [whdF, List.all_cons, whdF_scal f ws, scal, Bool.and_self]
theorem whd_scal (f : Nat → Option Addr × Nat) (ws : List Wr) : (whd f ws).all scal = true := whdF_scal f ws 0
theorem whdF_take (f : Nat → Option Addr × Nat) : ∀ (ws : List Wr) (i k : Nat), k < ws.length → ((whdF f i ws).drop (k * 3)).take 3 = wcs (f (i + k)) (ws.getD k zw)
  | [], _, _, h => by simp at h
  | w :: ws, i, 0, _ => rfl
  | w :: ws, i, k + 1, h => by
    have ih := whdF_take f ws (i + 1) k (by simpa using h)
    rw [show (k + 1) * 3 = k * 3 + 1 + 1 + 1 by omega, show i + (k + 1) = i + 1 + k by omega]
    simpa [whdF, List.getD] using ih
theorem whd_take {f : Nat → Option Addr × Nat} {ws : List Wr} {k : Nat} (h : k < ws.length) : ((whd f ws).drop (k * 3)).take 3 = wcs (f k) (ws.getD k zw) := by
  have := whdF_take f ws 0 k h
  rwa [Nat.zero_add] at this
theorem take_get {us cs : List Value} {k j : Nat} (h : (us.drop k).take 3 = cs) (hj : j < 3) : us[k + j]? = cs[j]? := by
  subst h
  rw [List.getElem?_take, if_pos hj, List.getElem?_drop]
theorem whd_get0 {f : Nat → Option Addr × Nat} {ws : List Wr} {k : Nat} (h : k < ws.length) : (whd f ws)[k * 3]? = some (.slice (f k).1 (ws.getD k zw).1.length (f k).2) := take_get (j := 0) (whd_take h) (by decide)
theorem whd_get1 {f : Nat → Option Addr × Nat} {ws : List Wr} {k : Nat} (h : k < ws.length) : (whd f ws)[k * 3 + 1]? = some (.bool (ws.getD k zw).2.1) := take_get (j := 1) (whd_take h) (by decide)
theorem whd_get2 {f : Nat → Option Addr × Nat} {ws : List Wr} {k : Nat} (h : k < ws.length) : (whd f ws)[k * 3 + 2]? = some (.float .f32 (ws.getD k zw).2.2) := take_get (j := 2) (whd_take h) (by decide)
def wrents (t : TypeId) (f : Nat → Option Addr × Nat) (ws : List Wr) : List Ent := (List.range ws.length).map fun i => ⟨(f i).1, vl (ws.getD i zw).1, (f i).2 * 3, t⟩
theorem wrents_mem {t : TypeId} {f : Nat → Option Addr × Nat} {ws : List Wr} {i : Nat} (h : i < ws.length) : (⟨(f i).1, vl (ws.getD i zw).1, (f i).2 * 3, t⟩ : Ent) ∈ wrents t f ws := by
  unfold wrents
  exact List.mem_map.2 ⟨i, by simpa using h, rfl⟩
/-- Each wire's points lie where its header says. -/
def WRws (w : World) (f : Nat → Option Addr × Nat) (ws : List Wr) : Prop := ∀ i, i < ws.length → Cl w (f i).1 (vl (ws.getD i zw).1)
theorem WRws.below {w w' : World} {f : Nat → Option Addr × Nat} {ws : List Wr} (h : WRws w f ws) (hb : Below w.heap.size w w') : WRws w' f ws := fun i hi => (h i hi).below hb
theorem WRws.root {w0 w : World} {O : List Ent} {f : Nat → Option Addr × Nat} {ws : List Wr} (h : WRws w0 f ws) (hw : Hp w0 O w) : WRws w f ws := h.below hw.below
inductive WRowsIn : List Ent → TypeId → (Nat → Option Addr × Nat) → List Wr → Prop
  | here {t : TypeId} {f : Nat → Option Addr × Nat} {ws : List Wr} {O : List Ent} : WRowsIn (wrents t f ws ++ O) t f ws
  | last {t : TypeId} {f : Nat → Option Addr × Nat} {ws : List Wr} : WRowsIn (wrents t f ws) t f ws
  | there {t : TypeId} {f : Nat → Option Addr × Nat} {ws : List Wr} {e : Ent} {O : List Ent} : WRowsIn O t f ws → WRowsIn (e :: O) t f ws
  | thereS {t : TypeId} {f : Nat → Option Addr × Nat} {ws : List Wr} {S O : List Ent} : WRowsIn O t f ws → WRowsIn (S ++ O) t f ws
theorem WRowsIn.mem {O : List Ent} {t : TypeId} {f : Nat → Option Addr × Nat} {ws : List Wr} (h : WRowsIn O t f ws) : ∀ i, i < ws.length → (⟨(f i).1, vl (ws.getD i zw).1, (f i).2 * 3, t⟩ : Ent) ∈ O := by
  induction h with
  | here => exact fun i hi => List.mem_append_left _ (wrents_mem hi)
  | last => exact fun i hi => wrents_mem hi
  | there _ ih => exact fun i hi => List.mem_cons_of_mem _ (ih i hi)
  | thereS _ ih => exact fun i hi => List.mem_append_right _ (ih i hi)
theorem WRws.own {w0 w : World} {O : List Ent} {t : TypeId} {f : Nat → Option Addr × Nat} {ws : List Wr} (h : WRowsIn O t f ws) (hw : Hp w0 O w) : WRws w f ws := fun i hi => Sees.own (h.mem i hi) w hw
theorem whdF_snoc (f : Nat → Option Addr × Nat) (p : Option Addr × Nat) (w : Wr) : ∀ (ws : List Wr) (i : Nat), whdF f i ws ++ wcs p w = whdF (upd f (i + ws.length) p) i (ws ++ [w])
  | [], i => by simp [whdF, wcs, upd]
  | v :: ws, i => by
    have ih := whdF_snoc f p w ws (i + 1)
    rw [show i + (v :: ws).length = i + 1 + ws.length by simp; omega]
    simp only [whdF, List.cons_append, ih]
    have : i ≠ i + 1 + ws.length := by omega
    simp [upd, this]
theorem whd_snoc (f : Nat → Option Addr × Nat) (p : Option Addr × Nat) (w : Wr) (ws : List Wr) : whd f ws ++ wcs p w = whd (upd f ws.length p) (ws ++ [w]) := by
  have := whdF_snoc f p w ws 0
  rwa [Nat.zero_add] at this
theorem wtake_snoc {ws : List Wr} {k : Nat} (h : k < ws.length) : ws.take k ++ [ws.getD k zw] = ws.take (k + 1) := by
  rw [List.take_succ_eq_append_getElem h]; simp [h]
theorem vtake_snoc {vs : List V3} {k : Nat} (h : k < vs.length) : vs.take k ++ [vs.getD k z3] = vs.take (k + 1) := by
  rw [List.take_succ_eq_append_getElem h]; simp [h]
theorem wrents_snoc (t : TypeId) (f : Nat → Option Addr × Nat) (ws : List Wr) (p : Option Addr × Nat) (w : Wr) : wrents t f ws ++ [⟨p.1, vl w.1, p.2 * 3, t⟩] = wrents t (upd f ws.length p) (ws ++ [w]) := by
  unfold wrents
  rw [List.length_append, List.length_singleton, List.range_succ, List.map_append]
  congr 1
  · apply List.map_congr_left
    intro i hi
    have hi : i < ws.length := by simpa using hi
    have hne : i ≠ ws.length := by omega
    simp [upd, hne, List.getD, List.getElem?_append_left hi]
  · simp [upd, List.getD]
theorem setAt_mid : ∀ (A : List Value) (x y z c0 c1 c2 : Value) (B : List Value), setAt (A ++ x :: y :: z :: B) A.length [c0, c1, c2] = A ++ c0 :: c1 :: c2 :: B
  | [], x, y, z, c0, c1, c2, B => rfl
  | a :: A, x, y, z, c0, c1, c2, B => by
    have ih := setAt_mid A x y z c0 c1 c2 B
    simp only [setAt, List.cons_append, List.length_cons, List.set_cons_succ] at ih ⊢
    rw [ih]
/-- The header list of which the first k are made. -/
def whdk (f : Nat → Option Addr × Nat) (ws : List Wr) (k : Nat) : List Value := whd f (ws.take k) ++ cycle [.slice none 0 0, .bool false, .float .f32 0] (ws.length - k)
theorem whdk_length {f : Nat → Option Addr × Nat} {ws : List Wr} {k : Nat} (h : k ≤ ws.length) : (whdk f ws k).length = ws.length * 3 := by
  simp only [whdk, List.length_append, whd_length, cycle_length, List.length_take, List.length_cons, List.length_nil]
  rw [Nat.min_eq_left h, ← Nat.add_mul]
  congr 1
  omega
theorem whdk_set {f : Nat → Option Addr × Nat} {ws : List Wr} {k : Nat} (h : k < ws.length) (p : Option Addr × Nat) : setAt (whdk f ws k) (k * 3) [.slice p.1 (ws.getD k zw).1.length p.2, .bool (ws.getD k zw).2.1, .float .f32 (ws.getD k zw).2.2] = whdk (upd f k p) ws (k + 1) := by
  have hlk : (ws.take k).length = k := by rw [List.length_take]; omega
  have hA : (whd f (ws.take k)).length = k * 3 := by rw [whd_length, hlk]
  unfold whdk
  rw [show ws.length - k = (ws.length - (k + 1)) + 1 by omega]
  simp only [cycle, List.cons_append, List.nil_append]
  rw [← hA, setAt_mid]
  have := whd_snoc f p (ws.getD k zw) (ws.take k)
  rw [hlk, wtake_snoc h] at this
  rw [← this]
  simp [wcs]
theorem whdk_zero (f : Nat → Option Addr × Nat) (ws : List Wr) : whdk f ws 0 = cycle [.slice none 0 0, .bool false, .float .f32 0] ws.length := by simp [whdk, whd, whdF]
theorem whdk_all (f : Nat → Option Addr × Nat) (ws : List Wr) : whdk f ws ws.length = whd f ws := by simp [whdk, cycle]
theorem wrents_take {t : TypeId} {f : Nat → Option Addr × Nat} {ws : List Wr} {k : Nat} (h : k < ws.length) (p : Option Addr × Nat) : wrents t f (ws.take k) ++ [⟨p.1, vl (ws.getD k zw).1, p.2 * 3, t⟩] = wrents t (upd f k p) (ws.take (k + 1)) := by
  have hlk : (ws.take k).length = k := by rw [List.length_take]; omega
  have := wrents_snoc t f (ws.take k) p (ws.getD k zw)
  rw [hlk] at this
  rw [this, wtake_snoc h]
/-- The list of vectors of which the first k are made. -/
def vlk (vs : List V3) (k : Nat) : List Value := vl (vs.take k) ++ cycle [.float .f32 0, .float .f32 0, .float .f32 0] (vs.length - k)
theorem vlk_length {vs : List V3} {k : Nat} (h : k ≤ vs.length) : (vlk vs k).length = vs.length * 3 := by
  simp only [vlk, List.length_append, vl_length, cycle_length, List.length_take, List.length_cons, List.length_nil]
  rw [Nat.min_eq_left h, ← Nat.add_mul]
  congr 1
  omega
theorem vlk_set {vs : List V3} {k : Nat} (h : k < vs.length) : setAt (vlk vs k) (k * 3) [.float .f32 (vs.getD k z3).1, .float .f32 (vs.getD k z3).2.1, .float .f32 (vs.getD k z3).2.2] = vlk vs (k + 1) := by
  have hlk : (vs.take k).length = k := by rw [List.length_take]; omega
  have hA : (vl (vs.take k)).length = k * 3 := by rw [vl_length, hlk]
  unfold vlk
  rw [show vs.length - k = (vs.length - (k + 1)) + 1 by omega]
  simp only [cycle, List.cons_append, List.nil_append]
  rw [← hA, setAt_mid, ← vtake_snoc h, ← vl_snoc]
  simp
theorem vlk_zero (vs : List V3) : vlk vs 0 = cycle [.float .f32 0, .float .f32 0, .float .f32 0] vs.length := by simp [vlk, vl]
theorem vlk_all (vs : List V3) : vlk vs vs.length = vl vs := by simp [vlk, cycle]
def Cans3 (vs : List V3) : Prop := ∀ v ∈ vs, Can3 v
theorem Cans3.row {vs : List V3} (h : Cans3 vs) {k : Nat} (hk : k < vs.length) : Can3 (vs.getD k z3) := h _ (by simp [hk])
def CansW (ws : List Wr) : Prop := ∀ w ∈ ws, Cans3 w.1 ∧ Can .f32 w.2.2
theorem CansW.row {ws : List Wr} (h : CansW ws) {k : Nat} (hk : k < ws.length) : Cans3 (ws.getD k zw).1 ∧ Can .f32 (ws.getD k zw).2.2 := h _ (by simp [hk])
theorem vmem {vs : List V3} {k : Nat} (h : k < vs.length) : vs.getD k z3 ∈ vs := by simp [h]
theorem vtake_succ_eq {xs ys : List V3} {k : Nat} (ht : xs.take k = ys.take k) (hx : k < xs.length) (hy : k < ys.length) (h : xs.getD k z3 = ys.getD k z3) : xs.take (k + 1) = ys.take (k + 1) := by
  rw [← vtake_snoc hx, ← vtake_snoc hy, ht, h]
theorem wtake_succ_eq {xs ys : List Wr} {k : Nat} (ht : xs.take k = ys.take k) (hx : k < xs.length) (hy : k < ys.length) (h : xs.getD k zw = ys.getD k zw) : xs.take (k + 1) = ys.take (k + 1) := by
  rw [← wtake_snoc hx, ← wtake_snoc hy, ht, h]

section
variable {P : Program} {n : Nat} {w0 : World} {O : List Ent} {E : Env} {o : Oper}
theorem yq_loadW {t : TypeId} {x : Operand} {a : Option Addr} {k : Nat} {f : Nat → Option Addr × Nat} {ws : List Wr} {fs : Array Field} (ho : o.op = .load t x) (ht : P.underlying t = some (.struct fs)) (hz : (P.info? t).map (·.size) = some 3) (hx : E.opd x = some (.pointer (some (adr a (k * 3))))) (hs : Sees w0 O a (whd f ws)) (hk : k < ws.length) :
    YQ P w0 O E o (.agg #[.slice (f k).1 (ws.getD k zw).1.length (f k).2, .bool (ws.getD k zw).2.1, .float .f32 (ws.getD k zw).2.2]) :=
  yq_loadS (cs := wcs (f k) (ws.getD k zw)) ho ht hz hx hs (whd_take hk) rfl rfl
end

/-! ### sizes -/
def wsum (ws : List Wr) (k : Nat) : Nat := ((ws.take k).map fun w => w.1.length).sum
def wbulk (ws : List Wr) : Nat := ws.length + wsum ws ws.length
theorem wsum_zero (ws : List Wr) : wsum ws 0 = 0 := by simp [wsum]
theorem wsum_succ {ws : List Wr} {k : Nat} (h : k < ws.length) : wsum ws (k + 1) = wsum ws k + (ws.getD k zw).1.length := by
  unfold wsum
  rw [← wtake_snoc h]
  simp
theorem wsum_mono (ws : List Wr) : ∀ (k m : Nat), k ≤ m → m ≤ ws.length → wsum ws k ≤ wsum ws m
  | k, 0, h, _ => by rw [show k = 0 by omega]; exact Nat.le_refl _
  | k, m + 1, h, hm => by
    by_cases e : k = m + 1
    · rw [e]; exact Nat.le_refl _
    · rw [wsum_succ (by omega)]
      have := wsum_mono ws k m (by omega) (by omega)
      omega
theorem wbulk_row {ws : List Wr} {k : Nat} (h : k < ws.length) : (ws.getD k zw).1.length + ws.length ≤ wbulk ws := by
  unfold wbulk
  have h1 := wsum_mono ws (k + 1) ws.length (by omega) (Nat.le_refl _)
  rw [wsum_succ h] at h1
  omega

/-! ### what is valid -/
def wireOk (w : Wr) : Bool := decide (2 ≤ w.1.length ∧ w.1.length ≤ 48) && w.1.all fin3 && fin w.2.2
def wiresOk (ws : List Wr) : Bool := decide (ws.length ≤ 8) && ws.all wireOk
section
variable {ps : List V3} {cl : Bool} {cur : Nat}
theorem wire_no1 (h : ¬ (2 ≤ ps.length ∧ ps.length ≤ 48)) : false = wireOk (ps, cl, cur) := by unfold wireOk; rw [decide_eq_false h]; rfl
theorem wire_no2 (h : ps.all fin3 = false) : false = wireOk (ps, cl, cur) := by unfold wireOk; rw [h, Bool.and_false]; rfl
theorem wire_no3 (h : fin cur = false) : false = wireOk (ps, cl, cur) := by unfold wireOk; rw [h, Bool.and_false]
theorem wire_yes (h : 2 ≤ ps.length ∧ ps.length ≤ 48) (h2 : ps.all fin3 = true) : fin cur = wireOk (ps, cl, cur) := by unfold wireOk; rw [decide_eq_true h, h2]; rfl
theorem wire_yes' (h : 2 ≤ ps.length ∧ ps.length ≤ 48) (h2 : ps.all fin3 = true) (h3 : fin cur = true) : true = wireOk (ps, cl, cur) := by rw [← wire_yes h h2, h3]
theorem wire_is {w : Wr} (h : wireOk w = true) : 2 ≤ w.1.length ∧ w.1.length ≤ 48 ∧ w.1.all fin3 = true ∧ fin w.2.2 = true := by
  unfold wireOk at h
  simp only [Bool.and_eq_true, decide_eq_true_eq] at h
  exact ⟨h.1.1.1, h.1.1.2, h.1.2, h.2⟩
end
theorem vall_getD {p : V3 → Bool} {vs : List V3} : vs.all p = true ↔ ∀ k, k < vs.length → p (vs.getD k z3) = true := by
  rw [List.all_eq_true]
  constructor
  · intro h k hk
    exact h _ (vmem hk)
  · intro h x hx
    obtain ⟨k, hk, rfl⟩ := List.getElem_of_mem hx
    have := h k hk
    simpa [List.getD, hk] using this
theorem vall_no {p : V3 → Bool} {vs : List V3} {k : Nat} (hk : k < vs.length) (h : p (vs.getD k z3) = false) : vs.all p = false := by
  rw [Bool.eq_false_iff]
  intro ha
  rw [vall_getD.1 ha k hk] at h
  cases h
theorem wmem {ws : List Wr} {k : Nat} (h : k < ws.length) : ws.getD k zw ∈ ws := by simp [h]
theorem wall_getD {p : Wr → Bool} {ws : List Wr} : ws.all p = true ↔ ∀ k, k < ws.length → p (ws.getD k zw) = true := by
  rw [List.all_eq_true]
  constructor
  · intro h k hk
    exact h _ (wmem hk)
  · intro h x hx
    obtain ⟨k, hk, rfl⟩ := List.getElem_of_mem hx
    have := h k hk
    simpa [List.getD, hk] using this
theorem wall_no {p : Wr → Bool} {ws : List Wr} {k : Nat} (hk : k < ws.length) (h : p (ws.getD k zw) = false) : ws.all p = false := by
  rw [Bool.eq_false_iff]
  intro ha
  rw [wall_getD.1 ha k hk] at h
  cases h
theorem vall_idx (p : V3 → Bool) (vs : List V3) : (!decide (0 ≤ idxI (fun k => !p (vs.getD k z3)) vs.length)) = vs.all p := by
  rw [idxI_any]
  rw [Bool.eq_iff_iff, vall_getD]
  simp only [Bool.not_eq_true', List.any_eq_false, List.mem_range, Bool.not_eq_false]
theorem wall_idx (p : Wr → Bool) (ws : List Wr) : (!decide (0 ≤ idxI (fun k => !p (ws.getD k zw)) ws.length)) = ws.all p := by
  rw [idxI_any]
  rw [Bool.eq_iff_iff, wall_getD]
  simp only [Bool.not_eq_true', List.any_eq_false, List.mem_range, Bool.not_eq_false]

/-! ### the field -/
def segN (w : Wr) : Nat := if w.2.1 then w.1.length else w.1.length - 1
def segA (w : Wr) (i : Nat) : V3 := w.1.getD i z3
def segB (w : Wr) (i : Nat) : V3 := w.1.getD ((i + 1) % w.1.length) z3
def sumW (w : Wr) (p : V3) : Nat → V3
  | 0 => z3
  | i + 1 => add3 (sumW w p i) (segF (segA w i) (segB w i) p)
def wireF (w : Wr) (p : V3) : V3 := scale3 (sumW w p (segN w)) w.2.2
def sumA (ws : List Wr) (p s0 : V3) : Nat → V3
  | 0 => s0
  | i + 1 => add3 (sumA ws p s0 i) (wireF (ws.getD i zw) p)
/-- The field, as the program makes it. -/
def fieldI (ws : List Wr) (p : V3) : V3 := sumA ws p z3 ws.length
/-- The field, as the reference makes it. -/
def fieldS (ws : List Wr) (p : V3) : V3 := sumA ws p (if fin3 p then z3 else sub3 p p) ws.length
theorem fieldS_fin {ws : List Wr} {p : V3} (h : fin3 p = true) : fieldS ws p = fieldI ws p := by unfold fieldS fieldI; rw [h]; rfl
end Go.Proofs.Ytacjcomjnabmhaa
