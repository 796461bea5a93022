/- Designs that a call owns: rows that are added, what is merged, what is returned if it is valid. -/
import Derived.Test.YtacjcomjnabmhaaLim
namespace Go.Proofs.Ytacjcomjnabmhaa
open Go.RowKit

/-! ### lists one behind the other -/
def catF (m : Nat) (f g : Nat → Option Addr × Nat) : Nat → Option Addr × Nat := fun i => if i < m then f i else g (i - m)
theorem range_cat {α : Type} (h : Nat → α) (m n : Nat) : (List.range (m + n)).map h = (List.range m).map h ++ (List.range n).map (fun i => h (m + i)) := by
  rw [List.range_add, List.map_append, List.map_map]; rfl
theorem getD_left {xss yss : List (List Nat)} {i : Nat} (h : i < xss.length) : (xss ++ yss).getD i [] = xss.getD i [] := by
  simp only [List.getD]; rw [List.getElem?_append_left h]
theorem getD_right {xss yss : List (List Nat)} {i : Nat} : (xss ++ yss).getD (xss.length + i) [] = yss.getD i [] := by
  simp only [List.getD]; rw [List.getElem?_append_right (by omega), Nat.add_sub_cancel_left]
theorem hd_append (f g : Nat → Option Addr × Nat) (xss yss : List (List Nat)) : hd f xss ++ hd g yss = hd (catF xss.length f g) (xss ++ yss) := by
  unfold hd
  rw [List.length_append, range_cat]
  congr 1
  · apply List.map_congr_left
    intro i hi
    have hi : i < xss.length := by simpa using hi
    rw [getD_left hi]
    simp [catF, hi]
  · apply List.map_congr_left
    intro i hi
    rw [getD_right]
    have hn : ¬ xss.length + i < xss.length := by omega
    simp [catF, hn]
theorem rents_append (t : TypeId) (f g : Nat → Option Addr × Nat) (xss yss : List (List Nat)) : rents t f xss ++ rents t g yss = rents t (catF xss.length f g) (xss ++ yss) := by
  unfold rents
  rw [List.length_append, range_cat]
  congr 1
  · apply List.map_congr_left
    intro i hi
    have hi : i < xss.length := by simpa using hi
    rw [getD_left hi]
    simp [catF, hi]
  · apply List.map_congr_left
    intro i hi
    rw [getD_right]
    have hn : ¬ xss.length + i < xss.length := by omega
    simp [catF, hn]
theorem hd_take {f : Nat → Option Addr × Nat} {xss : List (List Nat)} {k : Nat} (h : k < xss.length) (p : Option Addr × Nat) : hd f (xss.take k) ++ [.slice p.1 (xss.getD k []).length p.2] = hd (upd f k p) (xss.take (k + 1)) := by
  have hlk : (xss.take k).length = k := by rw [List.length_take]; omega
  have := hd_snoc f (xss.take k) p (xss.getD k [])
  rw [hlk] at this
  rw [this, take_snoc h]
/-- One row more is owned. -/
theorem Hp.snocRow {w0 w : World} {A : List Ent} {t : TypeId} {f : Nat → Option Addr × Nat} {xss : List (List Nat)} {k : Nat} (h : k < xss.length) (p : Option Addr × Nat) (hw : Hp w0 (⟨p.1, fl (xss.getD k []), p.2 * 1, t⟩ :: (A ++ rents t f (xss.take k))) w) : Hp w0 (A ++ rents t (upd f k p) (xss.take (k + 1))) w := by
  rw [← rents_take h p]
  refine hw.perm' ?_
  rw [← List.append_assoc]
  exact (List.perm_append_comm (l₁ := [_]))
theorem Pick.five {O O1 O2 O3 O4 F R1 R2 : List Ent} {e1 e2 e3 : Ent} (h1 : Rem O [e1] O1) (h2 : Rem O1 [e2] O2) (h3 : Rem O2 [e3] O3) (h4 : Rem O3 R1 O4) (h5 : Rem O4 R2 F) : Pick O (e1 :: e2 :: e3 :: (R1 ++ R2)) F :=
  Pick.take h1 (Pick.take h2 (Pick.take h3 (Pick.take h4 (by simpa using Pick.take h5 .nil))))
theorem Rws.cat {w : World} {f g : Nat → Option Addr × Nat} {xss yss : List (List Nat)} (h : Rws w f xss) (h2 : Rws w g yss) : Rws w (catF xss.length f g) (xss ++ yss) := by
  intro i hi
  rw [List.length_append] at hi
  by_cases hc : i < xss.length
  · rw [getD_left hc]
    have := h i hc
    simpa [catF, hc] using this
  · obtain ⟨j, rfl⟩ : ∃ j, i = xss.length + j := ⟨i - xss.length, by omega⟩
    rw [getD_right]
    have := h2 j (by omega)
    have hn : ¬ xss.length + j < xss.length := by omega
    simpa [catF, hn] using this

section
variable {P : Program} {w0 : World} {O : List Ent} {E : Env} {o : Oper}
/-- append to a list that is empty -/
theorem yc_append0 {s x : Operand} {t e : TypeId} {zero : List Value} {bytes : Nat} {a b : Option Addr} {c m2 c2 cap : Nat} {news : List Value} {O' : Option Addr × Nat → List Ent} (z : Nat) (hz : zero.length = z) (ho : o.op = .call ⟨.builtin .append, #[s, x], #[t, t]⟩) (ht : P.underlying t = some (.slice e)) (hE' : Elt P e zero bytes)
    (hs : E.opd s = some (.slice a 0 c)) (hx : E.opd x = some (.slice b m2 c2)) (hO : UpdF O ⟨a, [], cap, e⟩ (fun p : Option Addr × Nat => ⟨p.1, news, p.2 * z, e⟩) O') (hsee : Sees w0 O b news) (hcap : cap = c * z) (hnews : news.length = m2 * z) (hsn : news.all scal = true)
    (hbd : m2 * bytes ≤ 140737488355328) (hbd' : m2 ≤ 140737488355328) :
    YC P w0 O E o (fun p : Option Addr × Nat => .slice p.1 m2 p.2) O' := by
  have h := yc_appendz (P := P) (w0 := w0) (O := O) (E := E) (o := o) (us := []) (news := news) (m := 0) z hz ho ht hE' hs hx hO hsee hcap (by simp) hnews rfl hsn (by simpa using hbd) (by simpa using hbd')
  simpa only [Nat.zero_add] using h
end

/-! ### sizes -/
theorem sumK_le {xss : List (List Nat)} {b : Nat} (h : ∀ i, i < xss.length → (xss.getD i []).length ≤ b) : ∀ k, k ≤ xss.length → sumK xss k ≤ b * k
  | 0, _ => by rw [sumK_zero]; exact Nat.zero_le _
  | k + 1, hk => by
    have ih := sumK_le h k (by omega)
    have := h k (by omega)
    rw [sumK_succ (by omega), Nat.mul_succ]
    omega
theorem valid_small {xss : List (List Nat)} {ws gs : List Nat} (h : ValidP xss ws gs) : bulk xss + ws.length + gs.length ≤ 528 := by
  obtain ⟨v1, v2, v3, v4, v5, v6, v7, v8⟩ := h
  have := sumK_le (b := 8) (fun i hi => by rw [(v6 i hi).1]; exact v8) xss.length (Nat.le_refl _)
  unfold bulk
  omega
theorem sumK_append (xss yss : List (List Nat)) : sumK (xss ++ yss) (xss ++ yss).length = sumK xss xss.length + sumK yss yss.length := by
  have key : ∀ zss : List (List Nat), sumK zss zss.length = (zss.map List.length).sum := fun zss => by simp [sumK]
  rw [key, key, key, List.map_append, List.sum_append_nat]
theorem bulk_append (xss yss : List (List Nat)) : bulk (xss ++ yss) = bulk xss + bulk yss := by
  unfold bulk
  rw [sumK_append, List.length_append]
  omega

/-! ### what is merged -/
noncomputable def mergeOk (xss yss : List (List Nat)) (ws gs vs hs : List Nat) : Bool := validD xss ws gs && validD yss vs hs && validD (xss ++ yss) (ws ++ vs) (gs ++ hs)
noncomputable def mergeX (xss yss : List (List Nat)) (ws gs vs hs : List Nat) : List (List Nat) := if mergeOk xss yss ws gs vs hs then xss ++ yss else []
noncomputable def mergeW (xss yss : List (List Nat)) (ws gs vs hs : List Nat) : List Nat := if mergeOk xss yss ws gs vs hs then ws ++ vs else []
noncomputable def mergeG (xss yss : List (List Nat)) (ws gs vs hs : List Nat) : List Nat := if mergeOk xss yss ws gs vs hs then gs ++ hs else []
section
variable {xss yss : List (List Nat)} {ws gs vs hs : List Nat}
theorem merge_yes (h : validD xss ws gs = true) (h2 : validD yss vs hs = true) (h3 : validD (xss ++ yss) (ws ++ vs) (gs ++ hs) = true) : mergeOk xss yss ws gs vs hs = true := by unfold mergeOk; rw [h, h2, h3]; rfl
theorem merge_no1 (h : validD xss ws gs = false) : mergeOk xss yss ws gs vs hs = false := by unfold mergeOk; rw [h]; rfl
theorem merge_no2 (h : validD yss vs hs = false) : mergeOk xss yss ws gs vs hs = false := by unfold mergeOk; rw [h, Bool.and_false]; rfl
theorem merge_no3 (h : validD (xss ++ yss) (ws ++ vs) (gs ++ hs) = false) : mergeOk xss yss ws gs vs hs = false := by unfold mergeOk; rw [h, Bool.and_false]
theorem mergeX_yes (h : mergeOk xss yss ws gs vs hs = true) : mergeX xss yss ws gs vs hs = xss ++ yss := by unfold mergeX; rw [h]; rfl
theorem mergeW_yes (h : mergeOk xss yss ws gs vs hs = true) : mergeW xss yss ws gs vs hs = ws ++ vs := by unfold mergeW; rw [h]; rfl
theorem mergeG_yes (h : mergeOk xss yss ws gs vs hs = true) : mergeG xss yss ws gs vs hs = gs ++ hs := by unfold mergeG; rw [h]; rfl
theorem mergeX_no (h : mergeOk xss yss ws gs vs hs = false) : mergeX xss yss ws gs vs hs = [] := by unfold mergeX; rw [h]; rfl
theorem mergeW_no (h : mergeOk xss yss ws gs vs hs = false) : mergeW xss yss ws gs vs hs = [] := by unfold mergeW; rw [h]; rfl
theorem mergeG_no (h : mergeOk xss yss ws gs vs hs = false) : mergeG xss yss ws gs vs hs = [] := by unfold mergeG; rw [h]; rfl
theorem cans_append (h : Cans xss) (h2 : Cans yss) : Cans (xss ++ yss) := by
  intro xs hx
  rcases List.mem_append.1 hx with hx | hx
  · exact h xs hx
  · exact h2 xs hx
theorem cans_nil : Cans [] := fun _ h => by cases h
theorem can_append {xs ys : List Nat} (h : ∀ x ∈ xs, Can .f32 x) (h2 : ∀ x ∈ ys, Can .f32 x) : ∀ x ∈ xs ++ ys, Can .f32 x := by
  intro x hx
  rcases List.mem_append.1 hx with hx | hx
  · exact h x hx
  · exact h2 x hx
theorem cans_mergeX (h : Cans xss) (h2 : Cans yss) : Cans (mergeX xss yss ws gs vs hs) := by
  unfold mergeX; split
  · exact cans_append h h2
  · exact cans_nil
theorem can_mergeW (h : ∀ x ∈ ws, Can .f32 x) (h2 : ∀ x ∈ vs, Can .f32 x) : ∀ x ∈ mergeW xss yss ws gs vs hs, Can .f32 x := by
  unfold mergeW; split
  · exact can_append h h2
  · intro x hx; cases hx
theorem can_mergeG (h : ∀ x ∈ gs, Can .f32 x) (h2 : ∀ x ∈ hs, Can .f32 x) : ∀ x ∈ mergeG xss yss ws gs vs hs, Can .f32 x := by
  unfold mergeG; split
  · exact can_append h h2
  · intro x hx; cases hx
theorem merge_small : bulk (mergeX xss yss ws gs vs hs) + (mergeW xss yss ws gs vs hs).length + (mergeG xss yss ws gs vs hs).length ≤ 528 := by
  cases h : mergeOk xss yss ws gs vs hs
  · rw [mergeX_no h, mergeW_no h, mergeG_no h]; decide
  · rw [mergeX_yes h, mergeW_yes h, mergeG_yes h]
    unfold mergeOk at h
    exact valid_small (valid_is (Bool.and_eq_true_iff.1 h).2)
end

/-! ### one row more -/
theorem Rws.one {w : World} {p : Option Addr × Nat} {xs : List Nat} (h : Cl w p.1 (fl xs)) : Rws w (fun _ => p) [xs] := by
  intro i hi
  have : i = 0 := by simpa using hi
  subst this
  exact h
theorem bulk_one (xs : List Nat) : bulk [xs] = xs.length + 1 := by simp [bulk, sumK]; omega
theorem valid_one {xss : List (List Nat)} {ws gs xs : List Nat} {wt gt : Nat} (h0 : validD xss ws gs = true) (h : validD (xss ++ [xs]) (ws ++ [wt]) (gs ++ [gt]) = true) : validD [xs] [wt] [gt] = true := by
  obtain ⟨u1, u2, u3, u4, _, _, _, _⟩ := valid_is h0
  obtain ⟨v1, v2, v3, v4, v5, v6, v7, v8⟩ := valid_is h
  have hrow := v6 xss.length (by simp)
  have hg0 : (xss ++ [xs]).getD xss.length [] = xs := by
    have := getD_right (xss := xss) (yss := [xs]) (i := 0)
    simp at this
    simp
  have hgg : (gs ++ [gt]).getD xss.length 0 = gt := by
    simp only [List.getD]
    rw [List.getElem?_append_right (by omega), u3]
    simp
  rw [hg0, hgg] at hrow
  rw [List.all_append] at v5
  simp only [Bool.and_eq_true] at v5
  refine valid_yes ⟨by simp, by simp, by simp, by simp, v5.2, fun i hi => ?_, ?_, ?_⟩
  · have : i = 0 := by simpa using hi
    subst this
    exact ⟨rfl, hrow.2.1, hrow.2.2⟩
  · show 1 ≤ xs.length
    omega
  · show xs.length ≤ 8
    omega

/-- One row is taken out of what is owned, and put back. -/
theorem Hp.rowOut {w0 w : World} {A T : List Ent} {t : TypeId} {f : Nat → Option Addr × Nat} {xss : List (List Nat)} {k : Nat} (h : k < xss.length) (hw : Hp w0 (A ++ (rents t f xss ++ T)) w) : Hp w0 (⟨(f k).1, fl (xss.getD k []), (f k).2 * 1, t⟩ :: (A ++ (rentsBut t f xss k ++ T))) w :=
  hw.perm' (List.Perm.trans (List.Perm.append_left A ((rents_out h).append_right T)) List.perm_middle)
theorem Hp.rowIn {w0 w : World} {A T : List Ent} {t : TypeId} {f : Nat → Option Addr × Nat} {xss : List (List Nat)} {k : Nat} (h : k < xss.length) (hw : Hp w0 (⟨(f k).1, fl (xss.getD k []), (f k).2 * 1, t⟩ :: (A ++ (rentsBut t f xss k ++ T))) w) : Hp w0 (A ++ (rents t f xss ++ T)) w :=
  hw.perm' (List.Perm.trans (List.Perm.append_left A ((rents_out h).append_right T)) List.perm_middle).symm

/-! ### a column scaled -/
def scaleRow (j by' : Nat) (xs : List Nat) : List Nat := xs.set j (fop .mul .f32 (xs.getD j 0) by')
def mixS (j by' : Nat) (xss : List (List Nat)) (k : Nat) : List (List Nat) := (List.range xss.length).map fun i => if i < k then scaleRow j by' (xss.getD i []) else xss.getD i []
theorem mixS_length (j by' : Nat) (xss : List (List Nat)) (k : Nat) : (mixS j by' xss k).length = xss.length := by simp [mixS]
theorem mixS_get (j by' : Nat) {xss : List (List Nat)} (k : Nat) {i : Nat} (h : i < xss.length) : (mixS j by' xss k).getD i [] = if i < k then scaleRow j by' (xss.getD i []) else xss.getD i [] := by simp [mixS, List.getD, h]
theorem mixS_zero (j by' : Nat) (xss : List (List Nat)) : mixS j by' xss 0 = xss := by
  apply List.ext_getElem (by simp [mixS])
  intro i h1 h2
  simp [mixS, List.getD, h2]
theorem rentsBut_mixS {t : TypeId} {f : Nat → Option Addr × Nat} (j by' : Nat) {xss : List (List Nat)} {k : Nat} : rentsBut t f (mixS j by' xss k) k = rentsBut t f (mixS j by' xss (k + 1)) k := by
  unfold rentsBut
  rw [mixS_length, mixS_length]
  apply List.map_congr_left
  intro i hi
  have hn : i ≠ k := fun e => by
    subst e
    exact (List.Nodup.not_mem_erase List.nodup_range) hi
  have hl : i < xss.length := by simpa using List.mem_of_mem_erase hi
  unfold rentE
  rw [mixS_get j by' k hl, mixS_get j by' (k + 1) hl]
  by_cases h : i < k
  · rw [if_pos h, if_pos (by omega)]
  · rw [if_neg h, if_neg (by omega)]
theorem scaleRow_length (j by' : Nat) (xs : List Nat) : (scaleRow j by' xs).length = xs.length := by simp [scaleRow]
theorem mixS_rowlen (j by' : Nat) {xss : List (List Nat)} (k : Nat) {i : Nat} (h : i < xss.length) : ((mixS j by' xss k).getD i []).length = (xss.getD i []).length := by
  rw [mixS_get j by' k h]
  split
  · exact scaleRow_length _ _ _
  · rfl
theorem hd_mixS (f : Nat → Option Addr × Nat) (j by' : Nat) (xss : List (List Nat)) (k : Nat) : hd f (mixS j by' xss k) = hd f xss := by
  unfold hd
  rw [mixS_length]
  apply List.map_congr_left
  intro i hi
  have hi : i < xss.length := by simpa using hi
  rw [mixS_rowlen j by' k hi]
theorem sumK_mixS (j by' : Nat) (xss : List (List Nat)) (k : Nat) : ∀ m, m ≤ xss.length → sumK (mixS j by' xss k) m = sumK xss m
  | 0, _ => by rw [sumK_zero, sumK_zero]
  | m + 1, h => by
    rw [sumK_succ (by rw [mixS_length]; omega), sumK_succ (by omega), sumK_mixS j by' xss k m (by omega), mixS_rowlen j by' k (by omega)]
theorem bulk_mixS (j by' : Nat) (xss : List (List Nat)) (k : Nat) : bulk (mixS j by' xss k) = bulk xss := by
  unfold bulk
  rw [mixS_length, sumK_mixS _ _ _ _ _ (Nat.le_refl _)]
theorem cans_mixS {j by' : Nat} {xss : List (List Nat)} {k : Nat} (h : Cans xss) : Cans (mixS j by' xss k) := by
  intro xs hxs
  obtain ⟨i, hi, rfl⟩ := List.mem_map.1 hxs
  have hi : i < xss.length := by simpa using hi
  split
  · exact can_set (h.row hi) (can_fop _ _ _ _)
  · exact h.row hi
noncomputable def scaleOk (xss : List (List Nat)) (ws gs : List Nat) (j : Int) (by' : Nat) : Bool := validD xss ws gs && decide (0 ≤ j ∧ j ≤ ((xss.getD 0 []).length : Int) - 1) && validD (mixS j.toNat by' xss xss.length) ws gs
section
variable {xss : List (List Nat)} {ws gs : List Nat} {j : Int} {by' : Nat}
theorem scale_yes (h : validD xss ws gs = true) (h2 : 0 ≤ j ∧ j ≤ ((xss.getD 0 []).length : Int) - 1) (h3 : validD (mixS j.toNat by' xss xss.length) ws gs = true) : scaleOk xss ws gs j by' = true := by unfold scaleOk; rw [h, decide_eq_true h2, h3]; rfl
theorem scale_no1 (h : validD xss ws gs = false) : scaleOk xss ws gs j by' = false := by unfold scaleOk; rw [h]; rfl
theorem scale_no2 (h : decide (0 ≤ j ∧ j ≤ ((xss.getD 0 []).length : Int) - 1) = false) : scaleOk xss ws gs j by' = false := by unfold scaleOk; rw [h, Bool.and_false]; rfl
theorem scale_no3 (h : validD (mixS j.toNat by' xss xss.length) ws gs = false) : scaleOk xss ws gs j by' = false := by unfold scaleOk; rw [h, Bool.and_false]
noncomputable def scaleX (xss : List (List Nat)) (ws gs : List Nat) (j : Int) (by' : Nat) : List (List Nat) := if scaleOk xss ws gs j by' then mixS j.toNat by' xss xss.length else []
noncomputable def scaleW (xss : List (List Nat)) (ws gs : List Nat) (j : Int) (by' : Nat) : List Nat := if scaleOk xss ws gs j by' then ws else []
noncomputable def scaleG (xss : List (List Nat)) (ws gs : List Nat) (j : Int) (by' : Nat) : List Nat := if scaleOk xss ws gs j by' then gs else []
theorem scaleX_yes (h : scaleOk xss ws gs j by' = true) : scaleX xss ws gs j by' = mixS j.toNat by' xss xss.length := by unfold scaleX; rw [h]; rfl
theorem scaleW_yes (h : scaleOk xss ws gs j by' = true) : scaleW xss ws gs j by' = ws := by unfold scaleW; rw [h]; rfl
theorem scaleG_yes (h : scaleOk xss ws gs j by' = true) : scaleG xss ws gs j by' = gs := by unfold scaleG; rw [h]; rfl
theorem scaleX_no (h : scaleOk xss ws gs j by' = false) : scaleX xss ws gs j by' = [] := by unfold scaleX; rw [h]; rfl
theorem scaleW_no (h : scaleOk xss ws gs j by' = false) : scaleW xss ws gs j by' = [] := by unfold scaleW; rw [h]; rfl
theorem scaleG_no (h : scaleOk xss ws gs j by' = false) : scaleG xss ws gs j by' = [] := by unfold scaleG; rw [h]; rfl
theorem cans_scaleX (h : Cans xss) : Cans (scaleX xss ws gs j by') := by
  unfold scaleX; split
  · exact cans_mixS h
  · exact cans_nil
theorem can_scaleW (h : ∀ x ∈ ws, Can .f32 x) : ∀ x ∈ scaleW xss ws gs j by', Can .f32 x := by
  unfold scaleW; split
  · exact h
  · intro x hx; cases hx
theorem can_scaleG (h : ∀ x ∈ gs, Can .f32 x) : ∀ x ∈ scaleG xss ws gs j by', Can .f32 x := by
  unfold scaleG; split
  · exact h
  · intro x hx; cases hx
theorem scale_small : bulk (scaleX xss ws gs j by') + (scaleW xss ws gs j by').length + (scaleG xss ws gs j by').length ≤ 528 := by
  cases h : scaleOk xss ws gs j by'
  · rw [scaleX_no h, scaleW_no h, scaleG_no h]; decide
  · rw [scaleX_yes h, scaleW_yes h, scaleG_yes h]
    unfold scaleOk at h
    exact valid_small (valid_is (Bool.and_eq_true_iff.1 h).2)
end
end Go.Proofs.Ytacjcomjnabmhaa
