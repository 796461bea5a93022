/- A row left out. -/
import Derived.Test.YtacjcomjnabmhaaOwn
import Derived.Test.YtacjcomjnabmhaaSign
namespace Go.Proofs.Ytacjcomjnabmhaa
open Go.RowKit

def fD (i : Nat) (f : Nat → Option Addr × Nat) : Nat → Option Addr × Nat := fun k => if k < i then f k else f (k + 1)
def dK {α : Type} (i k : Nat) (us : List α) : List α := (us.take k).eraseIdx i
def nk (i k : Nat) : Nat := if i < k then k - 1 else k
theorem dK_length {α : Type} {i k : Nat} {us : List α} (h : k ≤ us.length) : (dK i k us).length = nk i k := by
  unfold dK nk
  rw [List.length_eraseIdx, List.length_take, Nat.min_eq_left h]
theorem dK_snoc {α : Type} {i k : Nat} {us : List α} {u : α} (h : us[k]? = some u) (hn : k ≠ i) : dK i k us ++ [u] = dK i (k + 1) us := by
  obtain ⟨hk, hu⟩ := List.getElem?_eq_some_iff.1 h
  unfold dK
  rw [List.take_add_one, h, Option.toList_some]
  by_cases hi : i < k
  · rw [List.eraseIdx_append_of_lt_length (by simp; omega)]
  · rw [List.eraseIdx_of_length_le (by simp; omega), List.eraseIdx_of_length_le (by simp; omega)]
theorem dK_same {α : Type} {i : Nat} {us : List α} : dK i (i + 1) us = dK i i us := by
  unfold dK
  by_cases h : i < us.length
  · rw [List.take_add_one, List.getElem?_eq_getElem h, Option.toList_some, List.eraseIdx_append_of_length_le (by simp; omega), List.eraseIdx_of_length_le (l := us.take i) (by simp; omega)]
    have : i - (us.take i).length = 0 := by simp; omega
    rw [this]; simp
  · rw [List.take_of_length_le (by omega), List.take_of_length_le (by omega)]
theorem dK_all {α : Type} {i : Nat} {us : List α} : dK i us.length us = us.eraseIdx i := by unfold dK; rw [List.take_length]
theorem dK_zero {α : Type} {i : Nat} {us : List α} : dK i 0 us = [] := by simp [dK]
theorem dK_all' {α : Type} {i k : Nat} {us : List α} (h : us.length = k) : dK i k us = us.eraseIdx i := by subst h; exact dK_all
theorem nk_go {i k : Nat} (h : k ≠ i) : nk i (k + 1) = nk i k + 1 := by
  unfold nk
  by_cases h2 : i < k
  · rw [if_pos h2, if_pos (by omega)]; omega
  · rw [if_neg h2, if_neg (by omega)]
theorem nk_same {i : Nat} : nk i (i + 1) = nk i i := by
  unfold nk
  rw [if_pos (Nat.lt_succ_self i), if_neg (Nat.lt_irrefl i)]
  rfl
theorem nk_le {i k : Nat} : nk i k ≤ k := by unfold nk; split <;> omega
theorem nk_all {i m : Nat} (h : i < m) : nk i m = m - 1 := by unfold nk; rw [if_pos h]
theorem nk_zero {i : Nat} : nk i 0 = 0 := by unfold nk; simp

theorem getD_erase {α : Type} {xs : List α} {i k : Nat} {d : α} : (xs.eraseIdx i).getD k d = if k < i then xs.getD k d else xs.getD (k + 1) d := by
  simp only [List.getD, List.getElem?_eraseIdx]
  split <;> rfl
theorem hd_get? {f : Nat → Option Addr × Nat} {xss : List (List Nat)} {j : Nat} : (hd f xss)[j]? = if j < xss.length then some (.slice (f j).1 (xss.getD j []).length (f j).2) else none := by
  by_cases h : j < xss.length
  · rw [if_pos h, hd_get h]
  · rw [if_neg h, List.getElem?_eq_none (by rw [hd_length]; omega)]
theorem hd_erase {f : Nat → Option Addr × Nat} {xss : List (List Nat)} {i : Nat} : hd (fD i f) (xss.eraseIdx i) = (hd f xss).eraseIdx i := by
  apply List.ext_getElem?
  intro j
  rw [List.getElem?_eraseIdx, hd_get?, hd_get?, hd_get?, getD_erase, List.length_eraseIdx]
  by_cases hj : j < i
  · rw [if_pos hj, if_pos hj]
    have e : fD i f j = f j := by unfold fD; rw [if_pos hj]
    rw [e]
    by_cases h2 : j < xss.length
    · rw [if_pos h2, if_pos (by split <;> omega)]
    · rw [if_neg h2, if_neg (by split <;> omega)]
  · rw [if_neg hj, if_neg hj]
    have e : fD i f j = f (j + 1) := by unfold fD; rw [if_neg hj]
    rw [e]
    by_cases h2 : j + 1 < xss.length
    · rw [if_pos h2, if_pos (by split <;> omega)]
    · rw [if_neg h2, if_neg (by split <;> omega)]
theorem rents_get? {t : TypeId} {f : Nat → Option Addr × Nat} {xss : List (List Nat)} {j : Nat} : (rents t f xss)[j]? = if j < xss.length then some ⟨(f j).1, fl (xss.getD j []), (f j).2 * 1, t⟩ else none := by
  unfold rents
  by_cases h : j < xss.length
  · rw [if_pos h]; simp [h]
  · rw [if_neg h]; simp; omega
theorem rents_erase {t : TypeId} {f : Nat → Option Addr × Nat} {xss : List (List Nat)} {i : Nat} : rents t (fD i f) (xss.eraseIdx i) = (rents t f xss).eraseIdx i := by
  apply List.ext_getElem?
  intro j
  rw [List.getElem?_eraseIdx, rents_get?, rents_get?, rents_get?, getD_erase, List.length_eraseIdx]
  by_cases hj : j < i
  · rw [if_pos hj, if_pos hj]
    have e : fD i f j = f j := by unfold fD; rw [if_pos hj]
    rw [e]
    by_cases h2 : j < xss.length
    · rw [if_pos h2, if_pos (by split <;> omega)]
    · rw [if_neg h2, if_neg (by split <;> omega)]
  · rw [if_neg hj, if_neg hj]
    have e : fD i f j = f (j + 1) := by unfold fD; rw [if_neg hj]
    rw [e]
    by_cases h2 : j + 1 < xss.length
    · rw [if_pos h2, if_pos (by split <;> omega)]
    · rw [if_neg h2, if_neg (by split <;> omega)]
theorem rents_erase_sub {t : TypeId} {f : Nat → Option Addr × Nat} {xss : List (List Nat)} {i : Nat} : (rents t (fD i f) (xss.eraseIdx i)).Sublist (rents t f xss) := by
  rw [rents_erase]; exact List.eraseIdx_sublist _ _
theorem fl_erase {xs : List Nat} {i : Nat} : fl (xs.eraseIdx i) = (fl xs).eraseIdx i := by
  apply List.ext_getElem?
  intro j
  rw [List.getElem?_eraseIdx, fl_get?, fl_get?, fl_get?, List.getElem?_eraseIdx]
  split <;> rfl
theorem Rws.erase {w : World} {f : Nat → Option Addr × Nat} {xss : List (List Nat)} (i : Nat) (h : Rws w f xss) : Rws w (fD i f) (xss.eraseIdx i) := by
  intro k hk
  rw [List.length_eraseIdx] at hk
  rw [getD_erase]
  unfold fD
  by_cases hi : k < i
  · rw [if_pos hi, if_pos hi]; exact h k (by split at hk <;> omega)
  · rw [if_neg hi, if_neg hi]; exact h (k + 1) (by split at hk <;> omega)
theorem erase_scal {us : List Value} {i : Nat} (h : us.all scal = true) : (us.eraseIdx i).all scal = true :=
  List.all_eq_true.2 fun x hx => List.all_eq_true.1 h x ((List.eraseIdx_sublist us i).subset hx)
theorem part_scal {us : List Value} {p q : Nat} (h : us.all scal = true) : ((us.drop p).take q).all scal = true :=
  List.all_eq_true.2 fun x hx => List.all_eq_true.1 h x (List.mem_of_mem_drop (List.mem_of_mem_take hx))
theorem dK_scal {us : List Value} {i k : Nat} (h : us.all scal = true) : (dK i k us).all scal = true :=
  erase_scal (List.all_eq_true.2 fun x hx => List.all_eq_true.1 h x (List.mem_of_mem_take hx))

/-- What is known is less. -/
theorem Ent.at.less {B : Nat} {w : World} {a : Option Addr} {us vs : List Value} {cap : Nat} {ty : TypeId} (h : Ent.at B w ⟨a, us, cap, ty⟩) (hl : vs.length ≤ us.length) (hv : ∀ (j : Nat) u, vs[j]? = some u → us[j]? = some u) : Ent.at B w ⟨a, vs, cap, ty⟩ := by
  rcases h with h | ⟨b, c, h1, h2, h3, h4, h5, h6⟩
  · refine .inl ⟨List.eq_nil_of_length_eq_zero ?_, h.2⟩
    have := h.1
    simp only at this
    subst this
    simpa using hl
  · exact .inr ⟨b, c, h1, h2, h3, h4, Nat.le_trans hl h5, fun j u hj => h6 j u (hv j u hj)⟩
theorem Hp.less {w0 w : World} {F : List Ent} {a : Option Addr} {us vs : List Value} {cap : Nat} {ty : TypeId} (hw : Hp w0 (F ++ [⟨a, us, cap, ty⟩]) w) (hl : vs.length ≤ us.length) (hv : ∀ (j : Nat) u, vs[j]? = some u → us[j]? = some u) : Hp w0 (F ++ [⟨a, vs, cap, ty⟩]) w := by
  have hm := hw.mid
  rw [List.append_nil] at hm
  obtain ⟨h1, h2, h3, h4⟩ := hm
  exact Hp.of_mid hw.below (by rw [List.append_nil]; exact h1) (h2.less hl hv) (by rw [List.append_nil]; exact h3) (by rw [List.append_nil]; exact h4)

/-- A part moved to the left, its last place made empty. -/
theorem del_get {us : List Value} {i m : Nat} {z : Value} (hm : us.length = m) (hi : i < m) : ∀ (j : Nat) u, (us.eraseIdx i)[j]? = some u → (setAt (setAt us (i * 1) ((us.drop ((i + 1) * 1)).take ((m - (i + 1)) * 1))) ((m - 1) * 1) (List.replicate (0 + 1) z))[j]? = some u := by
  intro j u hj
  have hl : ((us.drop ((i + 1) * 1)).take ((m - (i + 1)) * 1)).length = m - (i + 1) := by simp; omega
  have hjl : j < m - 1 := by
    have := (List.getElem?_eq_some_iff.1 hj).1
    rw [List.length_eraseIdx, hm] at this
    split at this <;> omega
  rw [setAt_get _ _ _ _ (by rw [setAt_length, hm]; simp; omega), if_neg (by simp; omega), setAt_get _ _ _ _ (by rw [hl, hm]; omega), hl]
  rw [List.getElem?_eraseIdx] at hj
  by_cases hji : j < i
  · rw [if_pos hji] at hj
    rw [if_neg (by omega)]
    exact hj
  · rw [if_neg hji] at hj
    rw [if_pos (by omega), List.getElem?_take, if_pos (by omega), List.getElem?_drop, show (i + 1) * 1 + (j - i * 1) = j + 1 by omega]
    exact hj
theorem del_len {us : List Value} {i m : Nat} {z : Value} (hm : us.length = m) : (us.eraseIdx i).length ≤ (setAt (setAt us (i * 1) ((us.drop ((i + 1) * 1)).take ((m - (i + 1)) * 1))) ((m - 1) * 1) (List.replicate (0 + 1) z)).length := by
  rw [setAt_length, setAt_length, List.length_eraseIdx]
  split <;> omega

noncomputable def dropOk (xss : List (List Nat)) (ws gs : List Nat) (j : Int) : Bool := validD xss ws gs && decide (0 ≤ j ∧ j ≤ (xss.length : Int) - 1) && validD (xss.eraseIdx j.toNat) (ws.eraseIdx j.toNat) (gs.eraseIdx j.toNat)
section
variable {xss : List (List Nat)} {ws gs : List Nat} {j : Int}
theorem drop_yes (h : validD xss ws gs = true) (h2 : 0 ≤ j ∧ j ≤ (xss.length : Int) - 1) (h3 : validD (xss.eraseIdx j.toNat) (ws.eraseIdx j.toNat) (gs.eraseIdx j.toNat) = true) : dropOk xss ws gs j = true := by unfold dropOk; rw [h, decide_eq_true h2, h3]; rfl
theorem drop_no1 (h : validD xss ws gs = false) : dropOk xss ws gs j = false := by unfold dropOk; rw [h]; rfl
theorem drop_no2 (h : decide (0 ≤ j ∧ j ≤ (xss.length : Int) - 1) = false) : dropOk xss ws gs j = false := by unfold dropOk; rw [h, Bool.and_false]; rfl
theorem drop_no3 (h : validD (xss.eraseIdx j.toNat) (ws.eraseIdx j.toNat) (gs.eraseIdx j.toNat) = false) : dropOk xss ws gs j = false := by unfold dropOk; rw [h, Bool.and_false]
noncomputable def dropX (xss : List (List Nat)) (ws gs : List Nat) (j : Int) : List (List Nat) := if dropOk xss ws gs j then xss.eraseIdx j.toNat else []
noncomputable def dropW (xss : List (List Nat)) (ws gs : List Nat) (j : Int) : List Nat := if dropOk xss ws gs j then ws.eraseIdx j.toNat else []
noncomputable def dropG (xss : List (List Nat)) (ws gs : List Nat) (j : Int) : List Nat := if dropOk xss ws gs j then gs.eraseIdx j.toNat else []
theorem dropX_yes (h : dropOk xss ws gs j = true) : dropX xss ws gs j = xss.eraseIdx j.toNat := by unfold dropX; rw [h]; rfl
theorem dropW_yes (h : dropOk xss ws gs j = true) : dropW xss ws gs j = ws.eraseIdx j.toNat := by unfold dropW; rw [h]; rfl
theorem dropG_yes (h : dropOk xss ws gs j = true) : dropG xss ws gs j = gs.eraseIdx j.toNat := by unfold dropG; rw [h]; rfl
theorem dropX_no (h : dropOk xss ws gs j = false) : dropX xss ws gs j = [] := by unfold dropX; rw [h]; rfl
theorem dropW_no (h : dropOk xss ws gs j = false) : dropW xss ws gs j = [] := by unfold dropW; rw [h]; rfl
theorem dropG_no (h : dropOk xss ws gs j = false) : dropG xss ws gs j = [] := by unfold dropG; rw [h]; rfl
theorem cans_dropX (h : Cans xss) : Cans (dropX xss ws gs j) := by
  unfold dropX; split
  · exact fun xs hx => h xs ((List.eraseIdx_sublist _ _).subset hx)
  · exact cans_nil
theorem can_dropW (h : ∀ x ∈ ws, Can .f32 x) : ∀ x ∈ dropW xss ws gs j, Can .f32 x := by
  unfold dropW; split
  · exact fun x hx => h x ((List.eraseIdx_sublist _ _).subset hx)
  · intro x hx; cases hx
theorem can_dropG (h : ∀ x ∈ gs, Can .f32 x) : ∀ x ∈ dropG xss ws gs j, Can .f32 x := by
  unfold dropG; split
  · exact fun x hx => h x ((List.eraseIdx_sublist _ _).subset hx)
  · intro x hx; cases hx
theorem drop_small : bulk (dropX xss ws gs j) + (dropW xss ws gs j).length + (dropG xss ws gs j).length ≤ 528 := by
  cases h : dropOk xss ws gs j
  · rw [dropX_no h, dropW_no h, dropG_no h]; decide
  · rw [dropX_yes h, dropW_yes h, dropG_yes h]
    unfold dropOk at h
    exact valid_small (valid_is (Bool.and_eq_true_iff.1 h).2)
theorem bulk_erase (h : validD xss ws gs = true) {i : Nat} : bulk (xss.eraseIdx i) + (ws.eraseIdx i).length + (gs.eraseIdx i).length ≤ 1050000 := by
  have v := valid_is h
  obtain ⟨v1, v2, v3, v4, v5, v6, v7, v8⟩ := v
  have hs : ∀ k, k < (xss.eraseIdx i).length → ((xss.eraseIdx i).getD k []).length ≤ 8 := fun k hk => by
    rw [List.length_eraseIdx] at hk
    rw [getD_erase]
    split
    · rw [(v6 k (by split at hk <;> omega)).1]; exact v8
    · rw [(v6 (k + 1) (by split at hk <;> omega)).1]; exact v8
  have h1 := sumK_le hs (xss.eraseIdx i).length (Nat.le_refl _)
  have h2 := List.length_eraseIdx (l := xss) (i := i)
  have h3 := List.length_eraseIdx (l := ws) (i := i)
  have h4 := List.length_eraseIdx (l := gs) (i := i)
  unfold bulk
  have e2 : (xss.eraseIdx i).length ≤ 48 := by rw [h2]; split <;> omega
  have e3 : (ws.eraseIdx i).length ≤ 48 := by rw [h3]; split <;> omega
  have e4 : (gs.eraseIdx i).length ≤ 48 := by rw [h4]; split <;> omega
  omega
end
end Go.Proofs.Ytacjcomjnabmhaa
