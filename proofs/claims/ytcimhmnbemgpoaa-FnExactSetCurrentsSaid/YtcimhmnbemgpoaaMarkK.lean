/- Marks in a list of wires that is kept: heads, points. -/
import Derived.Test.YtcimhmnbemgpoaaMarkW
import Derived.Test.YtcimhmnbemgpoaaOpenW
namespace Go.Proofs.Ytcimhmnbemgpoaa
open Go.RowKit

def mk0 (k0 : Int) (ws : List Wr) (i : Nat) : Int := k0 + ((wsum ws i * 3 + i * 2 : Nat) : Int)
def mkE (k0 : Int) (ws : List Wr) (i : Nat) : Int := mk0 k0 ws i + (((ws.getD i zw).1.length * 3 : Nat) : Int)
def mkW (k0 : Int) (ws : List Wr) (i : Nat) : Wr := ((ws.getD i zw).1, icmp .eql ((mkE k0 ws i).tmod 3) 0, FloatKind.f32.nearest (mkE k0 ws i + 1))
def mwsK (k0 : Int) (ws : List Wr) (k : Nat) : List Wr := (List.range ws.length).map fun i => if i < k then mkW k0 ws i else ws.getD i zw
def mrents (t : TypeId) (k0 : Int) (f : Nat → Option Addr × Nat) (ws : List Wr) (k : Nat) : List Ent := (List.range k).map fun i => ⟨(f i).1, fl (marks (mk0 k0 ws i) ((ws.getD i zw).1.length * 3)), (f i).2 * 3, t⟩
section
variable {t : TypeId} {k0 : Int} {f : Nat → Option Addr × Nat} {ws : List Wr} {k i : Nat}
theorem mwsK_length : (mwsK k0 ws k).length = ws.length := by simp [mwsK]
theorem mwsK_get (h : i < ws.length) : (mwsK k0 ws k).getD i zw = if i < k then mkW k0 ws i else ws.getD i zw := by simp [mwsK, List.getD, h]
theorem mwsK_zero : mwsK k0 ws 0 = ws := by
  apply List.ext_getElem (by rw [mwsK_length])
  intro i h1 h2
  have := mwsK_get (k0 := k0) (k := 0) h2
  simpa [List.getD, h1, h2] using this
theorem whd_mws_set : ((whd f (mwsK k0 ws k)).set (k * 3 + 1) (.bool (icmp .eql ((mkE k0 ws k).tmod 3) 0))).set (k * 3 + 2) (.float .f32 (FloatKind.f32.nearest (mkE k0 ws k + 1))) = whd f (mwsK k0 ws (k + 1)) := by
  apply List.ext_getElem?
  intro j
  by_cases hj : j < ws.length * 3
  · have e1 := whd_get (f := f) (ws := mwsK k0 ws k) (i := j) (by rw [mwsK_length]; exact hj)
    have e2 := whd_get (f := f) (ws := mwsK k0 ws (k + 1)) (i := j) (by rw [mwsK_length]; exact hj)
    have hq : j / 3 < ws.length := by omega
    rw [mwsK_get hq] at e1 e2
    rw [e2]
    have hl : (whd f (mwsK k0 ws k)).length = ws.length * 3 := by rw [whd_length, mwsK_length]
    by_cases a2 : j = k * 3 + 2
    · subst a2
      rw [List.getElem?_set_self (by rw [List.length_set, hl]; omega), show (k * 3 + 2) / 3 = k by omega, show (k * 3 + 2) % 3 = 2 by omega, if_pos (Nat.lt_succ_self k)]
      rfl
    · rw [List.getElem?_set_ne (by omega)]
      by_cases a1 : j = k * 3 + 1
      · subst a1
        rw [List.getElem?_set_self (by rw [hl]; omega), show (k * 3 + 1) / 3 = k by omega, show (k * 3 + 1) % 3 = 1 by omega, if_pos (Nat.lt_succ_self k)]
        rfl
      · rw [List.getElem?_set_ne (by omega), e1]
        by_cases hk : j / 3 < k
        · rw [if_pos hk, if_pos (by omega)]
        · by_cases hk2 : j / 3 = k
          · have h0 : j % 3 = 0 := by omega
            rw [h0, if_neg hk, if_pos (by omega), hk2]
            rfl
          · rw [if_neg hk, if_neg (by omega)]
  · rw [List.getElem?_eq_none (by simp only [List.length_set]; rw [whd_length, mwsK_length]; omega), List.getElem?_eq_none (by rw [whd_length, mwsK_length]; omega)]
theorem mwhd0 (h : k < ws.length) {n : Nat} : (whd f (mwsK k0 ws n))[k * 3 + 0]? = some (.slice (f k).1 (ws.getD k zw).1.length (f k).2) := by
  have e := whd_get0 (f := f) (ws := mwsK k0 ws n) (k := k) (by rw [mwsK_length]; exact h)
  rw [mwsK_get h] at e
  have e2 : (if k < n then mkW k0 ws k else ws.getD k zw).1 = (ws.getD k zw).1 := by split <;> rfl
  rw [e2] at e
  exact e
theorem mwhd1 (h : k < ws.length) {n : Nat} (hn : k < n) : (whd f (mwsK k0 ws n))[k * 3 + 1]? = some (.bool (icmp .eql ((mkE k0 ws k).tmod 3) 0)) := by
  have e := whd_get1 (f := f) (ws := mwsK k0 ws n) (k := k) (by rw [mwsK_length]; exact h)
  rw [mwsK_get h, if_pos hn] at e
  exact e
theorem mwhd2 (h : k < ws.length) {n : Nat} (hn : k < n) : (whd f (mwsK k0 ws n))[k * 3 + 2]? = some (.float .f32 (FloatKind.f32.nearest (mkE k0 ws k + 1))) := by
  have e := whd_get2 (f := f) (ws := mwsK k0 ws n) (k := k) (by rw [mwsK_length]; exact h)
  rw [mwsK_get h, if_pos hn] at e
  exact e
theorem mrents_succ : mrents t k0 f ws (k + 1) = mrents t k0 f ws k ++ [⟨(f k).1, fl (marks (mk0 k0 ws k) ((ws.getD k zw).1.length * 3)), (f k).2 * 3, t⟩] := by
  unfold mrents; rw [List.range_succ, List.map_append]; rfl
theorem mrents_mem (h : i < k) : (⟨(f i).1, fl (marks (mk0 k0 ws i) ((ws.getD i zw).1.length * 3)), (f i).2 * 3, t⟩ : Ent) ∈ mrents t k0 f ws k := List.mem_map.2 ⟨i, by simpa using h, rfl⟩
theorem Hp.markOut {w0 w : World} {F : List Ent} {e : Ent} (h : k < ws.length) (hw : Hp w0 (F ++ (e :: (mrents t k0 f ws k ++ (wrents t f ws).drop k))) w) : Hp w0 (F ++ (e :: ⟨(f k).1, vl (ws.getD k zw).1, (f k).2 * 3, t⟩ :: (mrents t k0 f ws k ++ (wrents t f ws).drop (k + 1)))) w := by
  rw [wrents_drop h] at hw
  exact hw.perm' (List.Perm.append_left F (List.Perm.cons _ List.perm_middle))
theorem Hp.markIn {w0 w : World} {F : List Ent} {e : Ent} (hw : Hp w0 (⟨(f k).1, fl (marks (mk0 k0 ws k) ((ws.getD k zw).1.length * 3)), (f k).2 * 3, t⟩ :: (F ++ (e :: (mrents t k0 f ws k ++ (wrents t f ws).drop (k + 1))))) w) : Hp w0 (F ++ (e :: (mrents t k0 f ws (k + 1) ++ (wrents t f ws).drop (k + 1)))) w := by
  rw [mrents_succ, List.append_assoc]
  refine hw.perm' (List.perm_middle.symm.trans (List.Perm.append_left F ((List.Perm.swap _ _ _).trans (List.Perm.cons _ ?_))))
  exact List.perm_middle.symm
end
/-- Each wire's points carry their marks. -/
def MRws (w : World) (k0 : Int) (f : Nat → Option Addr × Nat) (ws : List Wr) : Prop := ∀ i, i < ws.length → Cl w (f i).1 (fl (marks (mk0 k0 ws i) ((ws.getD i zw).1.length * 3)))
theorem MRws.below {w w' : World} {k0 : Int} {f : Nat → Option Addr × Nat} {ws : List Wr} (h : MRws w k0 f ws) (hb : Below w.heap.size w w') : MRws w' k0 f ws := fun i hi => (h i hi).below hb
theorem MRws.root {w0 w : World} {O : List Ent} {k0 : Int} {f : Nat → Option Addr × Nat} {ws : List Wr} (h : MRws w0 k0 f ws) (hw : Hp w0 O w) : MRws w k0 f ws := h.below hw.below
inductive MRowsIn : List Ent → TypeId → Int → (Nat → Option Addr × Nat) → List Wr → Prop
  | here {t : TypeId} {k0 : Int} {f : Nat → Option Addr × Nat} {ws : List Wr} {O : List Ent} : MRowsIn (mrents t k0 f ws ws.length ++ O) t k0 f ws
  | last {t : TypeId} {k0 : Int} {f : Nat → Option Addr × Nat} {ws : List Wr} : MRowsIn (mrents t k0 f ws ws.length) t k0 f ws
  | there {t : TypeId} {k0 : Int} {f : Nat → Option Addr × Nat} {ws : List Wr} {e : Ent} {O : List Ent} : MRowsIn O t k0 f ws → MRowsIn (e :: O) t k0 f ws
  | thereS {t : TypeId} {k0 : Int} {f : Nat → Option Addr × Nat} {ws : List Wr} {S O : List Ent} : MRowsIn O t k0 f ws → MRowsIn (S ++ O) t k0 f ws
theorem MRowsIn.mem {O : List Ent} {t : TypeId} {k0 : Int} {f : Nat → Option Addr × Nat} {ws : List Wr} (h : MRowsIn O t k0 f ws) : ∀ i, i < ws.length → (⟨(f i).1, fl (marks (mk0 k0 ws i) ((ws.getD i zw).1.length * 3)), (f i).2 * 3, t⟩ : Ent) ∈ O := by
  induction h with
  | here => exact fun i hi => List.mem_append_left _ (mrents_mem hi)
  | last => exact fun i hi => mrents_mem hi
  | there _ ih => exact fun i hi => List.mem_cons_of_mem _ (ih i hi)
  | thereS _ ih => exact fun i hi => List.mem_append_right _ (ih i hi)
theorem MRws.own {w0 w : World} {O : List Ent} {t : TypeId} {k0 : Int} {f : Nat → Option Addr × Nat} {ws : List Wr} (h : MRowsIn O t k0 f ws) (hw : Hp w0 O w) : MRws w k0 f ws := fun i hi => Sees.own (h.mem i hi) w hw
end Go.Proofs.Ytcimhmnbemgpoaa
