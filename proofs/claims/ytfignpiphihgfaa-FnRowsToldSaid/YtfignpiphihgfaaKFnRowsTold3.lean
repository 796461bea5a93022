/- Own texts of this claim, merged: Rt, WDd, WRows, WDesign, WMark, WOwn. -/
import Derived.Deep.Slices
import Derived.KernelRfl
import Derived.Test.YtfignpiphihgfaaKFnRowsTold2
namespace Go.Proofs.Ytfignpiphihgfaa
open Go.RowKit

def w2w (k : Nat) : Nat := fop .quo .f32 (FloatKind.f32.nearest ((k : Int) - 8)) 1073741824
def g2w (k : Nat) : Nat := fop .quo .f32 (FloatKind.f32.nearest (1 + (k : Int))) 1073741824
def H9 (y : Nat) : Prop := ∃ k : Nat, k < 9 ∧ y = hqw k
def W17 (y : Nat) : Prop := ∃ k : Nat, k < 17 ∧ y = w2w k
def G4 (y : Nat) : Prop := ∃ k : Nat, k < 4 ∧ y = g2w k
def Q17 (y : Nat) : Prop := ∃ k : Nat, k < 17 ∧ y = qw k
/-! ### tables -/
def dyb (x : Nat) (v : Int) : Bool := decide (x < 2 ^ FloatKind.f32.format.width) && decide (rng FloatKind.f32.format x < FloatKind.f32.format.infRung) && decide (sval FloatKind.f32.format x = v * 2 ^ dyU .f32)
theorem dyb_is {x : Nat} {v : Int} (h : dyb x v = true) : dy .f32 x v := by
  unfold dyb at h
  simp only [Bool.and_eq_true, decide_eq_true_eq] at h
  exact ⟨h.1.1, h.1.2, h.2⟩
theorem tH : ∀ k : Fin 9, (dyb (hqw k) (64 * ((k.val : Int) - 4)) && fin (hqw k) && fin (fop .mul .f32 (hqw k) 1073741824)) = true := by decide +kernel
theorem tW : ∀ k : Fin 17, (dyb (w2w k) (64 * ((k.val : Int) - 8)) && fin (w2w k)) = true := by decide +kernel
theorem tG : ∀ k : Fin 4, (dyb (g2w k) (64 * ((k.val : Int) + 1)) && least (g2w k)) = true := by decide +kernel
theorem tQ : ∀ k : Fin 17, (dyb (qw k) (32 * ((k.val : Int) - 8)) && fin (qw k) && fin (fop .quo .f32 (qw k) 1073741824)) = true := by decide +kernel
theorem tS : ∀ r : Fin 9, ∀ s : Fin 17, (fop .mul .f32 (fop .mul .f32 (hqw r) 1073741824) (fop .quo .f32 (qw s) 1073741824) == fop .mul .f32 (hqw r) (qw s)) = true := by decide +kernel
theorem tC : (fin 1073741824 && least 1065353216) = true := by decide +kernel
theorem dy_two : dy .f64 4611686018427387904 256 := by
  refine ⟨by decide, by decide, ?_⟩
  decide +kernel
theorem dy_one : dy .f64 4607182418800017408 128 := by
  refine ⟨by decide, by decide, ?_⟩
  decide +kernel
theorem hH {y : Nat} (h : H9 y) : ∃ v : Int, v.natAbs ≤ 4 ∧ dy .f32 y (64 * v) ∧ fin y = true ∧ fin (fop .mul .f32 y 1073741824) = true := by
  obtain ⟨k, hk, rfl⟩ := h
  have := tH ⟨k, hk⟩
  simp only [Bool.and_eq_true] at this
  exact ⟨(k : Int) - 4, by omega, dyb_is this.1.1, this.1.2, this.2⟩
theorem hW {y : Nat} (h : W17 y) : ∃ v : Int, v.natAbs ≤ 8 ∧ dy .f32 y (64 * v) ∧ fin y = true := by
  obtain ⟨k, hk, rfl⟩ := h
  have := tW ⟨k, hk⟩
  simp only [Bool.and_eq_true] at this
  exact ⟨(k : Int) - 8, by omega, dyb_is this.1, this.2⟩
theorem hG {y : Nat} (h : G4 y) : ∃ v : Nat, v ≤ 4 ∧ dy .f32 y (64 * (v : Int)) ∧ least y = true := by
  obtain ⟨k, hk, rfl⟩ := h
  have := tG ⟨k, hk⟩
  simp only [Bool.and_eq_true] at this
  exact ⟨k + 1, by omega, dyb_is this.1, this.2⟩
theorem hQ {y : Nat} (h : Q17 y) : ∃ v : Int, v.natAbs ≤ 8 ∧ dy .f32 y (32 * v) ∧ fin y = true ∧ fin (fop .quo .f32 y 1073741824) = true := by
  obtain ⟨k, hk, rfl⟩ := h
  have := tQ ⟨k, hk⟩
  simp only [Bool.and_eq_true] at this
  exact ⟨(k : Int) - 8, by omega, dyb_is this.1.1, this.1.2, this.2⟩
theorem hS {a q : Nat} (h : H9 a) (h2 : Q17 q) : fop .mul .f32 (fop .mul .f32 a 1073741824) (fop .quo .f32 q 1073741824) = fop .mul .f32 a q := by
  obtain ⟨r, hr, rfl⟩ := h
  obtain ⟨s, hs, rfl⟩ := h2
  exact beq_iff_eq.1 (tS ⟨r, hr⟩ ⟨s, hs⟩)
theorem dy_z {k : FloatKind} : dy k 0 0 := by
  refine ⟨by cases k <;> decide, by cases k <;> decide, ?_⟩
  rw [Int.zero_mul]; cases k <;> decide
theorem mulc (a b u v : Int) : (a * u) * (b * v) = (a * b) * (u * v) := by rw [Int.mul_assoc, Int.mul_left_comm u b v, ← Int.mul_assoc]
theorem natAbs_mul_le {a b : Int} {m n : Nat} (h1 : a.natAbs ≤ m) (h2 : b.natAbs ≤ n) : (a * b).natAbs ≤ m * n := by rw [Int.natAbs_mul]; exact Nat.mul_le_mul h1 h2
/-! ### what is missed -/
section
variable {xs x ws gs : List Nat} {xss : List (List Nat)} {n m i : Nat}
theorem getD_H {α : Type} {p : α → Prop} {l : List α} (h : ∀ y ∈ l, p y) {k : Nat} (hk : k < l.length) (d : α) : p (l.getD k d) := by
  have : l.getD k d = l[k] := by simp [List.getD, hk]
  rw [this]; exact h _ (List.getElem_mem hk)
theorem dot_dy (h1 : ∀ y ∈ xs, H9 y) (h2 : ∀ y ∈ x, Q17 y) : ∀ k, k ≤ xs.length → k ≤ x.length → k ≤ 3 → ∃ D : Int, D.natAbs ≤ 32 * k ∧ dy .f32 (dotK xs x k) (16 * D)
  | 0, _, _, _ => ⟨0, by decide, dy_z⟩
  | k + 1, ha, hb, hc => by
    obtain ⟨D, d1, d2⟩ := dot_dy h1 h2 k (by omega) (by omega) (by omega)
    obtain ⟨u, u1, u2, _⟩ := hH (getD_H h1 (show k < xs.length by omega) 0)
    obtain ⟨v, v1, v2, _⟩ := hQ (getD_H h2 (show k < x.length by omega) 0)
    have hb2 := natAbs_mul_le u1 v1
    have hm := dy_mul (c := 16 * (u * v)) u2 v2 (by rw [mulc]; omega) (by omega)
    have ha2 := dy_add d2 hm (by omega)
    exact ⟨D + u * v, by omega, by rw [dotK, Int.mul_add]; exact ha2⟩
/-- A row's part of the sum. -/
def tm (xss : List (List Nat)) (ws gs x : List Nat) (i : Nat) : Nat := fop .mul .f32 (fop .mul .f32 (gs.getD i 0) (missAt xss ws x i)) (missAt xss ws x i)
theorem sqK_s (k : Nat) : sqK xss ws gs x (k + 1) = fop .add .f32 (sqK xss ws gs x k) (tm xss ws gs x k) := rfl
/-- A design of halves. -/
structure DDok (xss : List (List Nat)) (ws gs : List Nat) (n : Nat) : Prop where
  m1 : 1 ≤ xss.length
  m2 : xss.length ≤ 10
  n1 : 1 ≤ n
  n2 : n ≤ 3
  rows : ∀ xs ∈ xss, xs.length = n ∧ ∀ y ∈ xs, H9 y
  wl : ws.length = xss.length
  gl : gs.length = xss.length
  hw : ∀ y ∈ ws, W17 y
  hg : ∀ y ∈ gs, G4 y
theorem miss_dy (h : DDok xss ws gs n) (hx : ∀ y ∈ x, Q17 y) (hl : x.length = n) (hi : i < xss.length) : ∃ t : Int, t.natAbs ≤ 128 ∧ dy .f32 (missAt xss ws x i) (16 * t) := by
  obtain ⟨r1, r2⟩ := getD_H h.rows hi []
  obtain ⟨D, d1, d2⟩ := dot_dy r2 hx x.length (by omega) (by omega) (by have := h.n2; omega)
  obtain ⟨v, v1, v2, _⟩ := hW (getD_H h.hw (show i < ws.length by rw [h.wl]; exact hi) 0)
  have hn := h.n2
  have := dy_sub v2 d2 (by omega)
  exact ⟨4 * v - D, by omega, by unfold missAt; rw [show 16 * (4 * v - D) = 64 * v - 16 * D by omega]; exact this⟩
theorem term_dy (h : DDok xss ws gs n) (hx : ∀ y ∈ x, Q17 y) (hl : x.length = n) (hi : i < xss.length) : ∃ T : Nat, T ≤ 65536 ∧ dy .f32 (tm xss ws gs x i) (T : Int) := by
  obtain ⟨t, t1, t2⟩ := miss_dy h hx hl hi
  obtain ⟨g, g1, g2, _⟩ := hG (getD_H h.hg (show i < gs.length by rw [h.gl]; exact hi) 0)
  have b1 := natAbs_mul_le (a := (g : Int)) (b := t) (m := 4) (n := 128) (by omega) t1
  have b2 := natAbs_mul_le b1 t1
  have hm := dy_mul (c := 8 * ((g : Int) * t)) g2 t2 (by rw [mulc]; omega) (by omega)
  have hm2 := dy_mul (c := (g : Int) * t * t) hm t2 (by rw [mulc]; omega) (by omega)
  have h0 : 0 ≤ (g : Int) * t * t := by rw [Int.mul_assoc]; exact Int.mul_nonneg (by omega) (by rcases Int.le_total 0 t with h | h; exact Int.mul_nonneg h h; exact Int.mul_nonneg_of_nonpos_of_nonpos h h)
  refine ⟨((g : Int) * t * t).natAbs, by omega, ?_⟩
  rw [Int.natAbs_of_nonneg h0]
  exact hm2
def sumf (f : Nat → Nat) : Nat → Nat
  | 0 => 0
  | k + 1 => sumf f k + f k
theorem sq_dy {f : Nat → Nat} {K : Nat} (hf : ∀ i, i < K → f i ≤ 65536 ∧ dy .f32 (tm xss ws gs x i) (f i : Int)) (hK : K ≤ 48) : ∀ k, k ≤ K → dy .f32 (sqK xss ws gs x k) (sumf f k : Int) ∧ sumf f k ≤ 65536 * k
  | 0, _ => ⟨dy_z, Nat.le_refl _⟩
  | k + 1, hk => by
    obtain ⟨h1, h2⟩ := sq_dy hf hK k (by omega)
    obtain ⟨g1, g2⟩ := hf k (by omega)
    refine ⟨?_, by rw [sumf]; omega⟩
    rw [sqK_s, sumf, Int.natCast_add]
    exact dy_add h1 g2 (by omega)
theorem sumf_cat {f : Nat → Nat} {m : Nat} : ∀ k, sumf (fun i => if i < m then f i else f (i - m)) (m + k) = sumf f m + sumf f k
  | 0 => by
    have key : ∀ j, j ≤ m → sumf (fun i => if i < m then f i else f (i - m)) j = sumf f j := by
      intro j hj
      induction j with
      | zero => rfl
      | succ j ih => rw [sumf, sumf, ih (by omega), if_pos (by omega)]
    rw [Nat.add_zero, key m (Nat.le_refl _)]; rfl
  | k + 1 => by
    rw [← Nat.add_assoc, sumf, sumf_cat k]
    rw [if_neg (by omega), Nat.add_sub_cancel_left, sumf, Nat.add_assoc]
theorem getD_cat {α : Type} {l r : List α} {d : α} {i : Nat} : (i < l.length → (l ++ r).getD i d = l.getD i d) ∧ (l ++ r).getD (l.length + i) d = r.getD i d := by
  constructor
  · intro h; simp [List.getD, List.getElem?_append_left h]
  · simp [List.getD, List.getElem?_append_right]
theorem tm_cat (h : DDok xss ws gs n) : (i < xss.length → tm (xss ++ xss) (ws ++ ws) (gs ++ gs) x i = tm xss ws gs x i) ∧ tm (xss ++ xss) (ws ++ ws) (gs ++ gs) x (xss.length + i) = tm xss ws gs x i := by
  unfold tm missAt
  constructor
  · intro hi
    rw [(getD_cat (l := gs)).1 (by rw [h.gl]; exact hi), (getD_cat (l := ws)).1 (by rw [h.wl]; exact hi), (getD_cat (l := xss)).1 hi]
  · have e1 : (gs ++ gs).getD (xss.length + i) 0 = gs.getD i 0 := by rw [← h.gl]; exact (getD_cat (l := gs)).2
    have e2 : (ws ++ ws).getD (xss.length + i) 0 = ws.getD i 0 := by rw [← h.wl]; exact (getD_cat (l := ws)).2
    rw [e1, e2, (getD_cat (l := xss)).2]
/-- The sum of a design, and of it twice. -/
theorem sq_two (h : DDok xss ws gs n) (hx : ∀ y ∈ x, Q17 y) (hl : x.length = n) : ∃ S : Nat, S ≤ 655360 ∧ dy .f32 (sqK xss ws gs x xss.length) (S : Int) ∧ dy .f32 (sqK (xss ++ xss) (ws ++ ws) (gs ++ gs) x (xss ++ xss).length) (2 * S : Int) := by
  obtain ⟨f, hf⟩ : ∃ f : Nat → Nat, ∀ i, i < xss.length → f i ≤ 65536 ∧ dy .f32 (tm xss ws gs x i) (f i : Int) := Go.Deep.choose_lt (fun i hi => term_dy h hx hl hi)
  have m2 := h.m2
  obtain ⟨a1, a2⟩ := sq_dy hf (by omega) xss.length (Nat.le_refl _)
  have hf2 : ∀ i, i < xss.length + xss.length → (fun i => if i < xss.length then f i else f (i - xss.length)) i ≤ 65536 ∧ dy .f32 (tm (xss ++ xss) (ws ++ ws) (gs ++ gs) x i) (((fun i => if i < xss.length then f i else f (i - xss.length)) i : Nat) : Int) := by
    intro i hi
    dsimp only
    by_cases hlt : i < xss.length
    · rw [if_pos hlt, (tm_cat h).1 hlt]; exact hf i hlt
    · rw [if_neg hlt]
      obtain ⟨j, rfl⟩ : ∃ j, i = xss.length + j := ⟨i - xss.length, by omega⟩
      rw [(tm_cat h).2, Nat.add_sub_cancel_left]
      exact hf j (by omega)
  obtain ⟨b1, _⟩ := sq_dy hf2 (by omega) (xss.length + xss.length) (Nat.le_refl _)
  rw [sumf_cat] at b1
  refine ⟨sumf f xss.length, by omega, a1, ?_⟩
  rw [List.length_append, show (2 * (sumf f xss.length : Nat) : Int) = ((sumf f xss.length + sumf f xss.length : Nat) : Int) by omega]
  exact b1
/-! ### what is valid -/
theorem valid_mem (h1 : 1 ≤ xss.length) (h2 : xss.length ≤ 48) (hw : ws.length = xss.length) (hg : gs.length = xss.length) (hwf : ∀ y ∈ ws, fin y = true) (hn : ∀ xs ∈ xss, xs.length = n ∧ ∀ y ∈ xs, fin y = true) (n1 : 1 ≤ n) (n2 : n ≤ 8) (hgl : ∀ y ∈ gs, least y = true) : validD xss ws gs = true := by
  refine valid_yes ⟨h1, h2, hg, hw, List.all_eq_true.2 hwf, fun i hi => ?_, ?_, ?_⟩
  · obtain ⟨r1, r2⟩ := getD_H hn hi []
    obtain ⟨q1, _⟩ := getD_H hn (show 0 < xss.length by omega) []
    exact ⟨by rw [r1, q1], List.all_eq_true.2 r2, getD_H hgl (by omega) 0⟩
  · rw [(getD_H hn (show 0 < xss.length by omega) []).1]; exact n1
  · rw [(getD_H hn (show 0 < xss.length by omega) []).1]; exact n2
theorem row_fin (h : DDok xss ws gs n) : ∀ xs ∈ xss, xs.length = n ∧ ∀ y ∈ xs, fin y = true := fun xs hxs => ⟨(h.rows xs hxs).1, fun y hy => by obtain ⟨_, _, _, h3, _⟩ := hH ((h.rows xs hxs).2 y hy); exact h3⟩
theorem ws_fin (h : DDok xss ws gs n) : ∀ y ∈ ws, fin y = true := fun y hy => by obtain ⟨_, _, _, h3⟩ := hW (h.hw y hy); exact h3
theorem gs_least (h : DDok xss ws gs n) : ∀ y ∈ gs, least y = true := fun y hy => by obtain ⟨_, _, _, h3⟩ := hG (h.hg y hy); exact h3
theorem dd_valid (h : DDok xss ws gs n) : validD xss ws gs = true := valid_mem h.m1 (by have := h.m2; omega) h.wl h.gl (ws_fin h) (row_fin h) h.n1 (by have := h.n2; omega) (gs_least h)
theorem dd_len0 (h : DDok xss ws gs n) : (xss.getD 0 []).length = n := (getD_H h.rows (show 0 < xss.length from h.m1) []).1
theorem mem_app {α : Type} {p : α → Prop} {l r : List α} (h1 : ∀ y ∈ l, p y) (h2 : ∀ y ∈ r, p y) : ∀ y ∈ l ++ r, p y := fun y hy => by
  rcases List.mem_append.1 hy with h | h
  · exact h1 y h
  · exact h2 y h
theorem mem_one {α : Type} {p : α → Prop} {a : α} (h : p a) : ∀ y ∈ [a], p y := fun y hy => by rw [List.mem_singleton.1 hy]; exact h
theorem dd_add (h : DDok xss ws gs n) (hx : ∀ y ∈ x, Q17 y) (hl : x.length = n) : mergeOk xss [x] ws gs [1073741824] [1065353216] = true := by
  have hc := tC
  simp only [Bool.and_eq_true] at hc
  have m2 := h.m2
  have n2 := h.n2
  have hv : validD (xss ++ [x]) (ws ++ [1073741824]) (gs ++ [1065353216]) = true := by
    refine valid_mem (n := n) (by rw [List.length_append]; show 1 ≤ xss.length + 1; omega) (by rw [List.length_append]; show xss.length + 1 ≤ 48; omega) (by rw [List.length_append, List.length_append, h.wl]; rfl) (by rw [List.length_append, List.length_append, h.gl]; rfl) (mem_app (ws_fin h) (mem_one hc.1)) (mem_app (row_fin h) (mem_one ⟨hl, fun y hy => ?_⟩)) h.n1 (by omega) (mem_app (gs_least h) (mem_one hc.2))
    obtain ⟨_, _, _, h3, _⟩ := hQ (hx y hy); exact h3
  exact merge_yes (dd_valid h) (valid_one (dd_valid h) hv) hv
theorem erase_last {α : Type} {l : List α} {a : α} {k : Nat} (hk : k = l.length) : (l ++ [a]).eraseIdx k = l := by
  subst hk
  rw [List.eraseIdx_append_of_length_le (Nat.le_refl _), Nat.sub_self]; simp
theorem dd_drop (h : DDok xss ws gs n) (hx : ∀ y ∈ x, Q17 y) (hl : x.length = n) : dropOk (xss ++ [x]) (ws ++ [1073741824]) (gs ++ [1065353216]) (xss.length : Int) = true ∧ dropX (xss ++ [x]) (ws ++ [1073741824]) (gs ++ [1065353216]) (xss.length : Int) = xss ∧ dropW (xss ++ [x]) (ws ++ [1073741824]) (gs ++ [1065353216]) (xss.length : Int) = ws ∧ dropG (xss ++ [x]) (ws ++ [1073741824]) (gs ++ [1065353216]) (xss.length : Int) = gs := by
  have hm := dd_add h hx hl
  unfold mergeOk at hm
  rw [Bool.and_eq_true] at hm
  have e1 : (xss ++ [x]).eraseIdx (xss.length : Int).toNat = xss := erase_last rfl
  have e2 : (ws ++ [1073741824]).eraseIdx (xss.length : Int).toNat = ws := erase_last h.wl.symm
  have e3 : (gs ++ [1065353216]).eraseIdx (xss.length : Int).toNat = gs := erase_last h.gl.symm
  have ho : dropOk (xss ++ [x]) (ws ++ [1073741824]) (gs ++ [1065353216]) (xss.length : Int) = true := drop_yes hm.2 ⟨by omega, by rw [List.length_append]; show (xss.length : Int) ≤ ((xss.length + 1 : Nat) : Int) - 1; omega⟩ (by rw [e1, e2, e3]; exact dd_valid h)
  exact ⟨ho, by rw [dropX_yes ho, e1], by rw [dropW_yes ho, e2], by rw [dropG_yes ho, e3]⟩
theorem dd_two (h : DDok xss ws gs n) : mergeOk xss xss ws gs ws gs = true := by
  have m2 := h.m2
  have n2 := h.n2
  have m1 := h.m1
  exact merge_yes (dd_valid h) (dd_valid h) (valid_mem (n := n) (by rw [List.length_append]; omega) (by rw [List.length_append]; omega) (by rw [List.length_append, List.length_append, h.wl]) (by rw [List.length_append, List.length_append, h.gl]) (mem_app (ws_fin h) (ws_fin h)) (mem_app (row_fin h) (row_fin h)) h.n1 (by omega) (mem_app (gs_least h) (gs_least h)))
theorem fits_yes (hv : validD xss ws gs = true) (hl : x.length = (xss.getD 0 []).length) : fitsD xss ws gs x = true := by unfold fitsD; rw [hv, decide_eq_true hl]; rfl
theorem dd_fits (h : DDok xss ws gs n) (hl : x.length = n) : fitsD xss ws gs x = true := fits_yes (dd_valid h) (by rw [hl, dd_len0 h])
theorem dd_fits2 (h : DDok xss ws gs n) (hl : x.length = n) : fitsD (xss ++ xss) (ws ++ ws) (gs ++ gs) x = true := by
  have hm := dd_two h
  unfold mergeOk at hm
  rw [Bool.and_eq_true] at hm
  exact fits_yes hm.2 (by rw [(getD_cat (l := xss)).1 h.m1, hl, dd_len0 h])
theorem getD_setN {l : List Nat} {j k a : Nat} (hk : k < l.length) : (l.set j a).getD k 0 = if j = k then a else l.getD k 0 := by
  simp only [List.getD, List.getElem?_set]
  split
  · rename_i e; subst e; rw [if_pos hk]; rfl
  · rfl
theorem dot_scale {j : Nat} (h1 : ∀ y ∈ xs, H9 y) (h2 : ∀ y ∈ x, Q17 y) (hl : xs.length = x.length) : ∀ k, k ≤ x.length → dotK (scaleRow j 1073741824 xs) (x.set j (fop .quo .f32 (x.getD j 0) 1073741824)) k = dotK xs x k
  | 0, _ => rfl
  | k + 1, hk => by
    rw [dotK, dotK, dot_scale h1 h2 hl k (by omega)]
    congr 1
    unfold scaleRow
    rw [getD_setN (by omega), getD_setN (by omega)]
    by_cases e : j = k
    · subst e
      rw [if_pos rfl, if_pos rfl]
      exact hS (getD_H h1 (by omega) 0) (getD_H h2 (by omega) 0)
    · rw [if_neg e, if_neg e]
theorem set_mem {p : Nat → Prop} {l : List Nat} {j a : Nat} (h : ∀ y ∈ l, p y) (ha : p a) : ∀ y ∈ l.set j a, p y := fun y hy => by
  rcases List.mem_or_eq_of_mem_set hy with h2 | h2
  · exact h y h2
  · rw [h2]; exact ha
theorem dd_scale {j : Nat} (h : DDok xss ws gs n) (hx : ∀ y ∈ x, Q17 y) (hl : x.length = n) (hj : j < n) :
    scaleOk xss ws gs (j : Int) 1073741824 = true ∧ fitsD (mixS j 1073741824 xss xss.length) ws gs (x.set j (fop .quo .f32 (x.getD j 0) 1073741824)) = true ∧ sqK (mixS j 1073741824 xss xss.length) ws gs (x.set j (fop .quo .f32 (x.getD j 0) 1073741824)) (mixS j 1073741824 xss xss.length).length = sqK xss ws gs x xss.length := by
  have m1 := h.m1
  have m2 := h.m2
  have n2 := h.n2
  have hget : ∀ i, i < xss.length → (mixS j 1073741824 xss xss.length).getD i [] = scaleRow j 1073741824 (xss.getD i []) := fun i hi => by rw [mixS_get _ _ _ hi, if_pos hi]
  have hrow : ∀ ys ∈ mixS j 1073741824 xss xss.length, ys.length = n ∧ ∀ y ∈ ys, fin y = true := by
    intro ys hys
    unfold mixS at hys
    obtain ⟨i, hi, rfl⟩ := List.mem_map.1 hys
    rw [List.mem_range] at hi
    rw [if_pos hi]
    obtain ⟨r1, r2⟩ := getD_H h.rows hi []
    unfold scaleRow
    refine ⟨by rw [List.length_set, r1], set_mem (fun y hy => ?_) ?_⟩
    · obtain ⟨_, _, _, h3, _⟩ := hH (r2 y hy); exact h3
    · obtain ⟨_, _, _, _, h3⟩ := hH (getD_H r2 (show j < _ by omega) 0); exact h3
  have hv : validD (mixS j 1073741824 xss xss.length) ws gs = true := valid_mem (n := n) (by rw [mixS_length]; exact m1) (by rw [mixS_length]; omega) (by rw [mixS_length, h.wl]) (by rw [mixS_length, h.gl]) (ws_fin h) hrow h.n1 (by omega) (gs_least h)
  refine ⟨scale_yes (dd_valid h) ⟨by omega, by rw [dd_len0 h]; omega⟩ hv, fits_yes hv ?_, ?_⟩
  · rw [List.length_set, hl, (getD_H hrow (show 0 < _ by rw [mixS_length]; exact m1) []).1]
  · rw [mixS_length]
    have key : ∀ k, k ≤ xss.length → sqK (mixS j 1073741824 xss xss.length) ws gs (x.set j (fop .quo .f32 (x.getD j 0) 1073741824)) k = sqK xss ws gs x k := by
      intro k
      induction k with
      | zero => intro _; rfl
      | succ k ih =>
        intro hk
        have hm : missAt (mixS j 1073741824 xss xss.length) ws (x.set j (fop .quo .f32 (x.getD j 0) 1073741824)) k = missAt xss ws x k := by
          unfold missAt
          obtain ⟨r1, r2⟩ := getD_H h.rows (show k < xss.length by omega) []
          rw [hget k (by omega), List.length_set, dot_scale r2 hx (by omega) _ (Nat.le_refl _)]
        rw [sqK_s, sqK_s, ih (by omega)]
        unfold tm
        rw [hm]
    exact key _ (Nat.le_refl _)
theorem can_H {y : Nat} (h : H9 y) : Can .f32 y := by obtain ⟨_, _, h2, _⟩ := hH h; exact h2.can
theorem can_W {y : Nat} (h : W17 y) : Can .f32 y := by obtain ⟨_, _, h2, _⟩ := hW h; exact h2.can
theorem can_G {y : Nat} (h : G4 y) : Can .f32 y := by obtain ⟨_, _, h2, _⟩ := hG h; exact h2.can
end
/-- All that the law asks of a drawn design, and of currents. -/
structure RtF (xss : List (List Nat)) (ws gs x : List Nat) (S : Nat) : Prop where
  hS : S ≤ 655360
  hX : Cans xss
  hXw : ∀ y ∈ ws, Can .f32 y
  hXg : ∀ y ∈ gs, Can .f32 y
  hadd : mergeOk xss [x] ws gs [1073741824] [1065353216] = true
  hdrop : dropOk (xss ++ [x]) (ws ++ [1073741824]) (gs ++ [1065353216]) (xss.length : Int) = true
  hdX : dropX (xss ++ [x]) (ws ++ [1073741824]) (gs ++ [1065353216]) (xss.length : Int) = xss
  hdW : dropW (xss ++ [x]) (ws ++ [1073741824]) (gs ++ [1065353216]) (xss.length : Int) = ws
  hdG : dropG (xss ++ [x]) (ws ++ [1073741824]) (gs ++ [1065353216]) (xss.length : Int) = gs
  htwo : mergeOk xss xss ws gs ws gs = true
  fit1 : fitsD xss ws gs x = true
  fit2 : fitsD (xss ++ xss) (ws ++ ws) (gs ++ gs) x = true
  dy1 : dy .f32 (squareD xss ws gs x) (S : Int)
  dy2 : dy .f32 (squareD (xss ++ xss) (ws ++ ws) (gs ++ gs) x) (2 * S : Int)
theorem rt_facts {xss : List (List Nat)} {ws gs x : List Nat} {n : Nat} (h : DDok xss ws gs n) (hx : ∀ y ∈ x, Q17 y) (hl : x.length = n) : ∃ S, RtF xss ws gs x S := by
  obtain ⟨S, s1, s2, s3⟩ := sq_two h hx hl
  obtain ⟨d1, d2, d3, d4⟩ := dd_drop h hx hl
  have f1 := dd_fits h hl
  have f2 := dd_fits2 h hl
  exact ⟨S, s1, fun xs hxs y hy => can_H ((h.rows xs hxs).2 y hy), fun y hy => can_W (h.hw y hy), fun y hy => can_G (h.hg y hy), dd_add h hx hl, d1, d2, d3, d4, dd_two h, f1, f2, by rw [squareD_yes f1]; exact s2, by rw [squareD_yes f2]; exact s3⟩
theorem rt_lt {x S C m : Nat} {e : Int} {g : Nat} (hS : S ≤ 655360) (h : dy .f32 x (S : Int)) (hg : dy .f64 g 0) (hC : Ieee.double.read C = .number false m e) (hm : m ≠ 0) (he : -500 ≤ e) : Ieee.double.order g (fop .mul .f64 C (fop .add .f64 4607182418800017408 (up x))) = some .lt :=
  small_pos (dy_add dy_one (dy_up h) (by omega)) (by omega) hg hC hm he
theorem rt_gap1 {x y S : Nat} (hS : S ≤ 655360) (h : dy .f32 x (S : Int)) (h2 : dy .f32 y (2 * S : Int)) : dy .f64 (fop .mul .f64 4611686018427387904 (up x)) (2 * S : Int) ∧ dy .f64 (up y) (2 * S : Int) :=
  ⟨dy_mul dy_two (dy_up h) (by omega) (by omega), dy_up h2⟩
theorem gap0 {x y : Nat} {a : Int} (hx : dy .f64 x a) (hy : dy .f64 y a) : dy .f64 (fop .sub .f64 x y) 0 := by
  have := dy_sub hx hy (by rw [Int.sub_self]; decide)
  rwa [Int.sub_self] at this
theorem c01 : Ieee.double.read 4576918229304087675 = .number false 5764607523034235 (-59) := by decide +kernel
theorem c001 : Ieee.double.read 4562254508917369340 = .number false 4611686018427388 (-62) := by decide +kernel
theorem not_gtr {g y : Nat} (h : Ieee.double.order g y = some .lt) : fcmp .gtr .f64 g y = false := by
  show (Ieee.double.order g y == some .gt) = false
  rw [h]; rfl
theorem is_lss {g y : Nat} (h : Ieee.double.order g y = some .lt) : fcmp .lss .f64 g y = true := by
  show (Ieee.double.order g y == some .lt) = true
  rw [h]; rfl
/-- A drawn design, and where it lies. -/
structure DX where
  p : ((Option Addr × Nat) × (Nat → Option Addr × Nat)) × (Option Addr × Nat) × (Option Addr × Nat)
  xss : List (List Nat)
  ws : List Nat
  gs : List Nat
  n : Nat
  at' : Nat
  sd : Nat
def DX.v (x : DX) : Value := .agg #[.slice x.p.1.1.1 x.xss.length x.p.1.1.2, .slice x.p.2.1.1 x.ws.length x.p.2.1.2, .slice x.p.2.2.1 x.gs.length x.p.2.2.2]
theorem rents_nil {t : TypeId} {f : Nat → Option Addr × Nat} : rents t f [] = [] := rfl
theorem lss_same {x y : Nat} {a : Int} (hx : dy .f64 x a) (hy : dy .f64 y a) : fcmp .lss .f64 x y = false := by
  show (FloatKind.f64.format.order x y == some .lt) = false
  rw [dy_cmp hx hy, compare_eq.2 rfl]; rfl
theorem fits_valid {xss : List (List Nat)} {ws gs x : List Nat} (h : fitsD xss ws gs x = true) : validD xss ws gs = true := by
  unfold fitsD at h
  rw [Bool.and_eq_true] at h
  exact h.1
end Go.Proofs.Ytfignpiphihgfaa


namespace Go.Proofs.Ytfignpiphihgfaa
open Go.RowKit
set_option linter.unusedVariables false
set_option linter.unusedSimpArgs false
set_option maxRecDepth 20000

theorem zero46_Dd : (Try.prog.info? 46).bind (·.zero) = some (Value.agg #[Value.slice none 0 0, Value.slice none 0 0, Value.slice none 0 0]) := by kernel_rfl
theorem known97_Dd : Known Try.prog 97 := Known.mk' Try.func97 (by kernel_rfl)
theorem lay46_Dd : Lay Try.prog 46 [Value.slice none 0 0, Value.slice none 0 0, Value.slice none 0 0] [(0, 1), (1, 1), (2, 1)] := Lay.mk' (by kernel_rfl) (by kernel_rfl)
theorem sz46_Dd : (Try.prog.info? 46).map (·.size) = some 3 := by kernel_rfl
theorem elt23_Dd : Elt Try.prog 23 [Value.float .f32 0] 4 := Elt.mk' (by kernel_rfl) (by decide)
theorem sz41_Dd : (Try.prog.info? 41).map (·.size) = some 1 := by kernel_rfl
theorem fb41_Dd : flatB Try.prog 41 = true := by kernel_rfl
theorem elt42_Dd : Elt Try.prog 42 [Value.slice none 0 0] 24 := Elt.mk' (by kernel_rfl) (by decide)
theorem mixed_Dd : Try.prog.follows .mixedOrders = true := by kernel_rfl
theorem sz42_Dd : (Try.prog.info? 42).map (·.size) = some 1 := by kernel_rfl
theorem fb42_Dd : flatB Try.prog 42 = true := by kernel_rfl
theorem known95_Dd : Known Try.prog 95 := Known.mk' Try.func95 (by kernel_rfl)
theorem known96_Dd : Known Try.prog 96 := Known.mk' Try.func96 (by kernel_rfl)
theorem sz5_Dd : (Try.prog.info? 5).map (·.size) = some 1 := by kernel_rfl
theorem fb5_Dd : flatB Try.prog 5 = true := by kernel_rfl
attribute [local irreducible] fop fcmp fconv fneg fabs List.getD qw hqw w2w g2w uw

theorem c_drawOk {w0 : World} {a : Option Addr} {c q n sd : Nat} {bs : List Int} (hA : Cl w0 a (bl bs)) (hb : Bytes bs) (hl : bs.length ≤ 2000000) (hn : n ≤ 1000) (hsd : sd < 18446744073709551616) : Mut Try.prog 96 [.pointer (some (adr (some ⟨q, 0, none⟩) 0))] w0 [⟨some ⟨q, 0, none⟩, [.slice a bs.length c, .int .i64 ((n : Nat) : Int), .int .u64 ((sd : Nat) : Int)], 3, 152⟩] (fun x : {x : DX // DDok x.xss x.ws x.gs x.n} => x.1.v) (fun x => ⟨some ⟨q, 0, none⟩, [.slice a bs.length c, .int .i64 ((x.1.at' : Nat) : Int), .int .u64 ((x.1.sd : Nat) : Int)], 3, 152⟩ :: ⟨x.1.p.2.2.1, fl (x.1.gs), x.1.p.2.2.2 * 1, 23⟩ :: ⟨x.1.p.2.1.1, fl (x.1.ws), x.1.p.2.1.2 * 1, 23⟩ :: ⟨x.1.p.1.1.1, hd x.1.p.1.2 (x.1.xss), x.1.p.1.1.2 * 1, 42⟩ :: rents 23 x.1.p.1.2 (x.1.xss)) := by
  refine Mut.enter Try.func96 rfl Try.ntmps96 (Nat.le_of_ble_eq_true rfl) ?_
  intro F
  haveI hne17 : Nonempty {x : Nat × Nat // x.1 < 17 ∧ x.2 < 18446744073709551616} := ⟨⟨(0, 0), by decide, by decide⟩⟩
  haveI hne4 : Nonempty {x : Nat × Nat // x.1 < 4 ∧ x.2 < 18446744073709551616} := ⟨⟨(0, 0), by decide, by decide⟩⟩
  refine V.seq ?_
  refine V.region ?_
  refine VL.new1 (.inl rfl) rfl (by decide) (yn_alloc rfl zero46_Dd rfl) ?_
  intro b2
  refine VL.nil ?_
  refine VE.then_wp ?_
  refine V.seq ?_
  refine V.region ?_
  refine VL.r (.inl rfl) rfl (by decide) (yr_move rfl rfl) ?_
  refine VL.c (.inl rfl) rfl (by decide) (yc_callf rfl known97_Dd (.cons rfl (.cons rfl .nil)) (by apply Pick.one; repeat (first | exact Rem.here | apply Rem.there | apply Rem.thereS)) (c_pick (m := 3) hA hb (by omega) (by omega) (by omega) (by decide) (by decide))) ?_
  rintro ⟨⟨x9, s9⟩, hx9, hs9⟩
  dsimp only at hx9 hs9
  refine VL.r (.inl rfl) rfl (by decide) (yr_addN (1 + x9) rfl rfl rfl (by push_cast; rfl) (by omega)) ?_
  refine VL.r (.inl rfl) rfl (by decide) (yr_assign rfl rfl) ?_
  refine VL.nil ?_
  refine VE.then_wp ?_
  refine V.seq ?_
  refine V.region ?_
  refine VL.r (.inl rfl) rfl (by decide) (yr_build rfl lay46_Dd rfl .nil (by first | (simp; done) | (simp [vv]; done) | (simp [cn, cn1, cn0]; done)) rfl) ?_
  refine VL.new1 (.inl rfl) rfl (by decide) (yn_alloc rfl zero46_Dd rfl) ?_
  intro b4
  refine VL.s (.inl rfl) rfl (yc_store rfl sz46_Dd rfl rfl (by repeat (first | exact UpdF.here | apply UpdF.there | apply UpdF.thereS)) (.inr ⟨rfl, rfl⟩) rfl (by first | exact Nat.le_of_ble_eq_true rfl | simp) (by decide) rfl) ?_
  rintro ⟨⟩
  refine VL.nil ?_
  refine VE.then_wp ?_
  refine V.seq ?_
  refine V.seq ?_
  refine V.region ?_
  refine VL.r (.inl rfl) rfl (by decide) (yr_move rfl rfl) ?_
  refine VL.c (.inl rfl) rfl (by decide) (yc_callf rfl known97_Dd (.cons rfl (.cons rfl .nil)) (by apply Pick.one; repeat (first | exact Rem.here | apply Rem.there | apply Rem.thereS)) (c_pick (m := 10) hA hb (by omega) (by omega) (by omega) (by decide) (by decide))) ?_
  rintro ⟨⟨x13, s13⟩, hx13, hs13⟩
  dsimp only at hx13 hs13
  refine VL.r (.inl rfl) rfl (by decide) (yr_addN (1 + x13) rfl rfl rfl (by push_cast; rfl) (by omega)) ?_
  refine VL.r (.inl rfl) rfl (by decide) (yr_assign rfl rfl) ?_
  refine VL.nil ?_
  refine VE.then_wp ?_
  refine V.block ?_
  refine V.loopc (G := (List (List Nat)) × (Nat → Option Addr × Nat) × (Option Addr) × Nat × (List Nat) × (Option Addr) × Nat × (List Nat) × (Option Addr) × Nat × Nat × Nat) [(0, _), (2, _), (3, _), (4, _)] (fun ⟨xss, f, ah, ch, ws, aw, cw, gs, ag, cg, nn, sd⟩ => xss.length ≤ (1 + x13) ∧ (∀ xs ∈ xss, xs.length = (1 + x9) ∧ ∀ y ∈ xs, H9 y) ∧ (ws.length = xss.length ∧ gs.length = xss.length) ∧ (∀ y ∈ ws, W17 y) ∧ (∀ y ∈ gs, G4 y) ∧ nn ≤ n + 2 + 5 * xss.length ∧ sd < 18446744073709551616) (fun ⟨xss, f, ah, ch, ws, aw, cw, gs, ag, cg, nn, sd⟩ => (⟨some ⟨b4, 0, none⟩, [.slice ah xss.length ch, .slice aw ws.length cw, .slice ag gs.length cg], 3, 46⟩ :: ⟨ag, fl gs, cg * 1, 23⟩ :: ⟨aw, fl ws, cw * 1, 23⟩ :: ⟨ah, hd f xss, ch * 1, 42⟩ :: ⟨some ⟨b2, 0, none⟩, [.slice none 0 0, .slice none 0 0, .slice none 0 0], 3, 46⟩ :: ⟨some ⟨q, 0, none⟩, [.slice a bs.length c, .int .i64 ((nn : Nat) : Int), .int .u64 ((sd : Nat) : Int)], 3, 152⟩ :: (rents 23 f xss ++ F))) (fun ⟨xss, f, ah, ch, ws, aw, cw, gs, ag, cg, nn, sd⟩ => [(5, .int .i64 (((1 + x13) - xss.length : Nat) : Int))]) (fun ⟨xss, f, ah, ch, ws, aw, cw, gs, ag, cg, nn, sd⟩ => (1 + x13) - xss.length) ([], fun _ => (none, 0), none, 0, [], none, 0, [], none, 0, n + 1 + 1, s13) (.cons rfl (.cons rfl (.cons rfl (.cons rfl .nil)))) (.cons rfl .nil) ?_ ?_ ?_
  · exact (fun w hw => by
      have h9 := ((hw.nilU 23).nilU 23).nilU 42
      dsimp only
      rw [rents_nil, List.nil_append]
      exact h9.pick (by apply Pick.cons1; (· repeat (first | exact Rem.here | exact Rem.all | exact Rem.hereS | apply Rem.there | apply Rem.thereS)); apply Pick.cons1; (· repeat (first | exact Rem.here | exact Rem.all | exact Rem.hereS | apply Rem.there | apply Rem.thereS)); apply Pick.cons1; (· repeat (first | exact Rem.here | exact Rem.all | exact Rem.hereS | apply Rem.there | apply Rem.thereS)); apply Pick.cons1; (· repeat (first | exact Rem.here | exact Rem.all | exact Rem.hereS | apply Rem.there | apply Rem.thereS)); apply Pick.cons1; (· repeat (first | exact Rem.here | exact Rem.all | exact Rem.hereS | apply Rem.there | apply Rem.thereS)); apply Pick.cons1; (· repeat (first | exact Rem.here | exact Rem.all | exact Rem.hereS | apply Rem.there | apply Rem.thereS)); apply Pick.last; repeat (first | exact Rem.here | exact Rem.all | exact Rem.hereS | apply Rem.there | apply Rem.thereS)))
  · exact (by exact ⟨Nat.zero_le _, fun xs h => (by cases h), ⟨rfl, rfl⟩, fun y h => (by cases h), fun y h => (by cases h), by show n + 1 + 1 ≤ n + 2 + 5 * 0; omega, hs13⟩)
  rintro ⟨xss, f, ah, ch, ws, aw, cw, gs, ag, cg, nn, sd⟩ ⟨hl9, hr9, ⟨hw9, hg9⟩, hW9, hG9, hn9, hs9⟩
  show V _ _ _ (⟨some ⟨b4, 0, none⟩, [.slice ah xss.length ch, .slice aw ws.length cw, .slice ag gs.length cg], 3, 46⟩ :: ⟨ag, fl gs, cg * 1, 23⟩ :: ⟨aw, fl ws, cw * 1, 23⟩ :: ⟨ah, hd f xss, ch * 1, 42⟩ :: ⟨some ⟨b2, 0, none⟩, [.slice none 0 0, .slice none 0 0, .slice none 0 0], 3, 46⟩ :: ⟨some ⟨q, 0, none⟩, [.slice a bs.length c, .int .i64 ((nn : Nat) : Int), .int .u64 ((sd : Nat) : Int)], 3, 152⟩ :: (rents 23 f xss ++ F)) ([(5, .int .i64 (((1 + x13) - xss.length : Nat) : Int))] ++ [(0, _), (2, _), (3, _), (4, _)]) _ _
  refine V.seq ?_
  refine V.seq ?_
  refine V.region ?_
  refine VL.r (.inl rfl) rfl (by decide) (yr_move rfl rfl) ?_
  refine VL.r (.inl rfl) rfl (by decide) (yr_icmp rfl (.inr (.inr (.inr (.inr (.inl rfl))))) rfl rfl) ?_
  refine VL.nil ?_
  refine VE.then_wp ?_
  refine V.cond rfl (fun h1 => ?_) (fun h1 => ?_)
  · skip
    replace h1 := ic_gtr h1
    refine V.skip ?_
    refine VE.then_wp ?_
    refine V.seq ?_
    refine V.block ?_
    refine V.seq ?_
    refine V.region ?_
    refine VL.new1 (.inl rfl) rfl (by decide) (yn_lit rfl Try.underlying42 elt23_Dd rfl (by decide) .nil (by first | (simp; done) | (simp [cn, cn1, cn0]; done)) rfl rfl rfl) ?_
    intro b19
    refine VL.r (.inl rfl) rfl (by decide) (yr_assign rfl rfl) ?_
    refine VL.nil ?_
    refine VE.then_wp ?_
    refine V.seq ?_
    refine V.seq ?_
    refine V.region ?_
    refine VL.r (.inl rfl) rfl (by decide) (yr_assign (u := .int .i64 0) rfl rfl) ?_
    refine VL.nil ?_
    refine VE.then_wp ?_
    refine V.block ?_
    refine V.loopc (G := (List Nat) × (Option Addr) × Nat × Nat × Nat) [(0, _), (2, _), (3, _), (4, _), (5, _)] (fun ⟨xs, ar, cr, nn1, sd1⟩ => xs.length ≤ (1 + x9) ∧ (∀ y ∈ xs, H9 y) ∧ nn1 ≤ nn + xs.length ∧ sd1 < 18446744073709551616) (fun ⟨xs, ar, cr, nn1, sd1⟩ => (⟨ar, fl xs, cr * 1, 23⟩ :: ⟨some ⟨b4, 0, none⟩, [.slice ah xss.length ch, .slice aw ws.length cw, .slice ag gs.length cg], 3, 46⟩ :: ⟨ag, fl gs, cg * 1, 23⟩ :: ⟨aw, fl ws, cw * 1, 23⟩ :: ⟨ah, hd f xss, ch * 1, 42⟩ :: ⟨some ⟨b2, 0, none⟩, [.slice none 0 0, .slice none 0 0, .slice none 0 0], 3, 46⟩ :: ⟨some ⟨q, 0, none⟩, [.slice a bs.length c, .int .i64 ((nn1 : Nat) : Int), .int .u64 ((sd1 : Nat) : Int)], 3, 152⟩ :: (rents 23 f xss ++ F))) (fun ⟨xs, ar, cr, nn1, sd1⟩ => [(6, .slice ar xs.length cr), (7, .int .i64 (xs.length : Int))]) (fun ⟨xs, ar, cr, nn1, sd1⟩ => (1 + x9) - xs.length) ([], some ⟨b19, 0, none⟩, 0, nn, sd) (.cons rfl (.cons rfl (.cons rfl (.cons rfl (.cons rfl .nil))))) (.cons rfl (.cons rfl .nil)) ?_ ?_ ?_
    · exact (fun w hw => by dsimp only; rw [fl_nil]; exact hw.pick (by apply Pick.cons1; (· repeat (first | exact Rem.here | exact Rem.all | exact Rem.hereS | apply Rem.there | apply Rem.thereS)); apply Pick.cons1; (· repeat (first | exact Rem.here | exact Rem.all | exact Rem.hereS | apply Rem.there | apply Rem.thereS)); apply Pick.cons1; (· repeat (first | exact Rem.here | exact Rem.all | exact Rem.hereS | apply Rem.there | apply Rem.thereS)); apply Pick.cons1; (· repeat (first | exact Rem.here | exact Rem.all | exact Rem.hereS | apply Rem.there | apply Rem.thereS)); apply Pick.cons1; (· repeat (first | exact Rem.here | exact Rem.all | exact Rem.hereS | apply Rem.there | apply Rem.thereS)); apply Pick.cons1; (· repeat (first | exact Rem.here | exact Rem.all | exact Rem.hereS | apply Rem.there | apply Rem.thereS)); apply Pick.cons1; (· repeat (first | exact Rem.here | exact Rem.all | exact Rem.hereS | apply Rem.there | apply Rem.thereS)); apply Pick.app1; (· repeat (first | exact Rem.here | exact Rem.all | exact Rem.hereS | apply Rem.there | apply Rem.thereS)); apply Pick.last; repeat (first | exact Rem.here | exact Rem.all | exact Rem.hereS | apply Rem.there | apply Rem.thereS)))
    · exact (by exact ⟨Nat.zero_le _, fun y h => (by cases h), Nat.le_refl _, hs9⟩)
    rintro ⟨xs, ar, cr, nn1, sd1⟩ ⟨hm9, hx9, hn8, hs8⟩
    show V _ _ _ (⟨ar, fl xs, cr * 1, 23⟩ :: ⟨some ⟨b4, 0, none⟩, [.slice ah xss.length ch, .slice aw ws.length cw, .slice ag gs.length cg], 3, 46⟩ :: ⟨ag, fl gs, cg * 1, 23⟩ :: ⟨aw, fl ws, cw * 1, 23⟩ :: ⟨ah, hd f xss, ch * 1, 42⟩ :: ⟨some ⟨b2, 0, none⟩, [.slice none 0 0, .slice none 0 0, .slice none 0 0], 3, 46⟩ :: ⟨some ⟨q, 0, none⟩, [.slice a bs.length c, .int .i64 ((nn1 : Nat) : Int), .int .u64 ((sd1 : Nat) : Int)], 3, 152⟩ :: (rents 23 f xss ++ F)) ([(6, .slice ar xs.length cr), (7, .int .i64 (xs.length : Int))] ++ [(0, _), (2, _), (3, _), (4, _), (5, _)]) _ _
    refine V.seq ?_
    refine V.seq ?_
    refine V.region ?_
    refine VL.r (.inl rfl) rfl (by decide) (yr_move rfl rfl) ?_
    refine VL.r (.inl rfl) rfl (by decide) (yr_move rfl rfl) ?_
    refine VL.r (.inl rfl) rfl (by decide) (yr_icmp rfl (.inr (.inr (.inl rfl))) rfl rfl) ?_
    refine VL.nil ?_
    refine VE.then_wp ?_
    refine V.cond rfl (fun h2 => ?_) (fun h2 => ?_)
    · skip
      replace h2 := ic_lss h2
      refine V.skip ?_
      refine VE.then_wp ?_
      refine V.seq ?_
      refine V.block ?_
      refine V.region ?_
      refine VL.r (.inl rfl) rfl (by decide) (yr_move rfl rfl) ?_
      refine VL.r (.inl rfl) rfl (by decide) (yr_move rfl rfl) ?_
      refine VL.c (.inl rfl) rfl (by decide) (yc_callf rfl known97_Dd (.cons rfl (.cons rfl .nil)) (by apply Pick.one; repeat (first | exact Rem.here | apply Rem.there | apply Rem.thereS)) (c_pick (m := 9) hA hb (by omega) (by omega) (by omega) (by decide) (by decide))) ?_
      rintro ⟨⟨x27, s27⟩, hx27, hs27⟩
      dsimp only at hx27 hs27
      refine VL.r (.inl rfl) rfl (by decide) (yr_int rfl rfl rfl (.inr (.inl ⟨rfl, wrap_in (by (try dsimp only); omega)⟩))) ?_
      refine VL.r (.inl rfl) rfl (by decide) (yr_ofInt rfl Try.underlying2 Try.underlying23 rfl) ?_
      refine VL.r (.inl rfl) rfl (by decide) (show YR _ _ _ (.float .f32 (hqw x27)) from (by unfold hqw; exact yr_float rfl (.inr (.inr (.inr rfl))) rfl rfl)) ?_
      refine VL.new1 (.inl rfl) rfl (by decide) (yn_lit rfl Try.underlying42 elt23_Dd rfl (by decide) (.cons rfl .nil) (by first | (simp; done) | (simp [cn, cn1, cn0]; done)) rfl rfl rfl) ?_
      intro b31
      refine VL.c (.inl rfl) rfl (by decide) (yc_appendz 1 rfl rfl Try.underlying42 elt23_Dd rfl rfl (by repeat (first | exact UpdF.here | apply UpdF.there | apply UpdF.thereS)) (by first | exact Sees.root (by assumption) | exact Sees.own (by repeat (first | exact List.mem_cons_self | exact List.mem_append_left _ (by assumption) | apply List.mem_cons_of_mem | apply List.mem_append_right)) | exact Sees.root (hR _ (by omega)) | exact Sees.own (RowsIn.mem (by repeat (first | exact RowsIn.here | exact RowsIn.last | apply RowsIn.there | apply RowsIn.thereS)) _ (by omega)) | exact Sees.own (WRowsIn.mem (by repeat (first | exact WRowsIn.here | exact WRowsIn.last | apply WRowsIn.there | apply WRowsIn.thereS)) _ (by omega))) rfl (by first | (rw [fl_length, Nat.mul_one]; done) | (rw [hd_length, Nat.mul_one]; done) | rw [hd_length] | rw [fl_length]) (by first | rfl | simp) (by first | rfl | exact fl_scal _ | exact hd_scal _ _) (by first | rfl | exact fl_scal _) (by omega) (by omega)) ?_
      rintro ⟨a32, c32⟩
      refine VL.r (.inl rfl) rfl (by decide) (yr_assign rfl rfl) ?_
      refine VL.nil ?_
      refine VE.block_normal ?_
      refine VE.then_wp ?_
      refine V.region ?_
      refine VL.r (.inl rfl) rfl (by decide) (yr_move rfl rfl) ?_
      refine VL.r (.inl rfl) rfl (by decide) (yr_int rfl rfl rfl (.inl ⟨rfl, wrap_in (by (try dsimp only); omega)⟩)) ?_
      refine VL.r (.inl rfl) rfl (by decide) (yr_assign rfl rfl) ?_
      refine VL.nil ?_
      refine VE.round (xs ++ [hqw x27], a32, c32, nn1 + 1, s27) ?_ ?_ ?_ ?_ ?_
      · exact (.cons (congrArg (fun n => some (Value.slice _ n _)) (by rw [List.length_append]; rfl)) (.cons (congrArg (fun i => some (Value.int .i64 i)) (by rw [List.length_append]; rfl)) .nil))
      · exact (.cons rfl (.cons rfl (.cons rfl (.cons rfl (.cons rfl .nil)))))
      · exact (fun w hw => by dsimp only; rw [← fl_snoc]; exact hw.pick (by apply Pick.cons1; (· repeat (first | exact Rem.here | exact Rem.all | exact Rem.hereS | apply Rem.there | apply Rem.thereS)); apply Pick.cons1; (· repeat (first | exact Rem.here | exact Rem.all | exact Rem.hereS | apply Rem.there | apply Rem.thereS)); apply Pick.cons1; (· repeat (first | exact Rem.here | exact Rem.all | exact Rem.hereS | apply Rem.there | apply Rem.thereS)); apply Pick.cons1; (· repeat (first | exact Rem.here | exact Rem.all | exact Rem.hereS | apply Rem.there | apply Rem.thereS)); apply Pick.cons1; (· repeat (first | exact Rem.here | exact Rem.all | exact Rem.hereS | apply Rem.there | apply Rem.thereS)); apply Pick.cons1; (· repeat (first | exact Rem.here | exact Rem.all | exact Rem.hereS | apply Rem.there | apply Rem.thereS)); apply Pick.cons1; (· repeat (first | exact Rem.here | exact Rem.all | exact Rem.hereS | apply Rem.there | apply Rem.thereS)); apply Pick.app1; (· repeat (first | exact Rem.here | exact Rem.all | exact Rem.hereS | apply Rem.there | apply Rem.thereS)); apply Pick.last; repeat (first | exact Rem.here | exact Rem.all | exact Rem.hereS | apply Rem.there | apply Rem.thereS)))
      · dsimp only
        simp only [List.length_append, List.length_cons, List.length_nil, Nat.zero_add]
        exact ⟨by omega, mem_app hx9 (mem_one ⟨x27, hx27, rfl⟩), by omega, hs27⟩
      · dsimp only; rw [List.length_append]; show (1 + x9) - (xs.length + 1) < (1 + x9) - xs.length; omega
    · skip
      replace h2 := ic_lss' h2
      refine V.exit ?_
      refine VE.then_exit ?_
      refine VE.then_exit ?_
      refine VE.block_here ?_
      refine VE.then_wp ?_
      refine V.seq ?_
      refine V.region ?_
      refine VL.r (.inl rfl) rfl (by decide) (yr_fieldAddr rfl Try.underlying46 rfl rfl sz41_Dd (by decide) rfl) ?_
      refine VL.q (.inl rfl) rfl (by decide) (yq_load rfl fb41_Dd rfl (by first | exact Sees.root (by assumption) | exact Sees.own (by repeat (first | exact List.mem_cons_self | exact List.mem_append_left _ (by assumption) | apply List.mem_cons_of_mem | apply List.mem_append_right)) | exact Sees.root (hR _ (by omega)) | exact Sees.own (RowsIn.mem (by repeat (first | exact RowsIn.here | exact RowsIn.last | apply RowsIn.there | apply RowsIn.thereS)) _ (by omega)) | exact Sees.own (WRowsIn.mem (by repeat (first | exact WRowsIn.here | exact WRowsIn.last | apply WRowsIn.there | apply WRowsIn.thereS)) _ (by omega))) rfl) ?_
      refine VL.r (.inl rfl) rfl (by decide) (yr_move rfl rfl) ?_
      refine VL.new1 (.inl rfl) rfl (by decide) (yn_lit rfl Try.underlying41 elt42_Dd rfl (by decide) (.cons rfl .nil) (by first | (simp; done) | (simp [cn, cn1, cn0]; done)) rfl rfl rfl) ?_
      intro b36
      refine VL.c (.inl rfl) rfl (by decide) (yc_appendz 1 rfl rfl Try.underlying41 elt42_Dd rfl rfl (by repeat (first | exact UpdF.here | apply UpdF.there | apply UpdF.thereS)) (by first | exact Sees.root (by assumption) | exact Sees.own (by repeat (first | exact List.mem_cons_self | exact List.mem_append_left _ (by assumption) | apply List.mem_cons_of_mem | apply List.mem_append_right)) | exact Sees.root (hR _ (by omega)) | exact Sees.own (RowsIn.mem (by repeat (first | exact RowsIn.here | exact RowsIn.last | apply RowsIn.there | apply RowsIn.thereS)) _ (by omega)) | exact Sees.own (WRowsIn.mem (by repeat (first | exact WRowsIn.here | exact WRowsIn.last | apply WRowsIn.there | apply WRowsIn.thereS)) _ (by omega))) rfl (by first | (rw [fl_length, Nat.mul_one]; done) | (rw [hd_length, Nat.mul_one]; done) | rw [hd_length] | rw [fl_length]) (by first | rfl | simp) (by first | rfl | exact fl_scal _ | exact hd_scal _ _) (by first | rfl | exact fl_scal _) (by omega) (by omega)) ?_
      rintro ⟨a37, c37⟩
      refine VL.r (.inl rfl) rfl (by decide) (yr_fieldAddr rfl Try.underlying46 rfl rfl sz41_Dd (by decide) rfl) ?_
      refine VL.s (.inl rfl) rfl (yc_store rfl sz41_Dd rfl rfl (by repeat (first | exact UpdF.here | apply UpdF.there | apply UpdF.thereS)) (.inl ⟨rfl, rfl⟩) rfl (by first | exact Nat.le_of_ble_eq_true rfl | simp) (by decide) rfl) ?_
      rintro ⟨⟩
      refine VL.nil ?_
      refine VE.then_wp ?_
      refine V.seq ?_
      refine Dr.V.drawR [(0, 5), (1, 5), (2, 5), (3, 3), (4, 5), (5, 5), (6, 5), (7, 1), (8, 3), (9, 5), (10, 4)] [] [⟨some ⟨q, 0, none⟩, [.slice a bs.length c, .int .i64 ((nn1 : Nat) : Int), .int .u64 ((sd1 : Nat) : Int)], 3, 152⟩, ⟨aw, fl ws, cw * 1, 23⟩] _ mixed_Dd (by kernel_rfl) (fun w hw => Hp.pickS hw (by apply Pick.e2; all_goals (repeat (first | exact Rem.here | exact Rem.all | exact Rem.hereS | apply Rem.there | apply Rem.thereS)))) ?_
      refine Dr.SW.r rfl (.inl rfl) rfl (by decide) (yr_fieldAddr rfl Try.underlying46 rfl rfl sz42_Dd (by decide) rfl) ?_
      refine Dr.SW.p rfl (.inl rfl) rfl (by decide) (yq_load rfl fb42_Dd rfl (by first | exact Sees.root (by assumption) | exact Sees.own (by (try simp only [List.append_assoc, List.cons_append, List.nil_append]); repeat (first | exact List.mem_cons_self | exact List.mem_append_left _ (by assumption) | apply List.mem_cons_of_mem | apply List.mem_append_right)) | exact Sees.root (hR _ (by omega)) | exact Sees.own (RowsIn.mem (by (try simp only [List.append_assoc, List.cons_append, List.nil_append]); repeat (first | exact RowsIn.here | exact RowsIn.last | apply RowsIn.there | apply RowsIn.thereS)) _ (by omega)) | exact Sees.own (WRowsIn.mem (by (try simp only [List.append_assoc, List.cons_append, List.nil_append]); repeat (first | exact WRowsIn.here | exact WRowsIn.last | apply WRowsIn.there | apply WRowsIn.thereS)) _ (by omega))) rfl) ?_
      refine Dr.SW.r rfl (.inl rfl) rfl (by decide) (yr_move rfl rfl) ?_
      refine Dr.SW.c rfl (.inl rfl) rfl (by decide) (yc_callfR rfl known97_Dd (.cons rfl (.cons rfl .nil)) (by apply Pick.one; repeat (first | exact Rem.here | exact Rem.all | exact Rem.hereS | apply Rem.there | apply Rem.thereS)) (c_pick (m := 17) hA hb (by omega) (by omega) (by omega) (by decide) (by decide))) ?_
      rintro ⟨⟨x42, s42⟩, hx42, hs42⟩
      dsimp only at hx42 hs42
      refine Dr.SW.r rfl (.inl rfl) rfl (by decide) (yr_int rfl rfl rfl (.inr (.inl ⟨rfl, wrap_in (by (try dsimp only); omega)⟩))) ?_
      refine Dr.SW.r rfl (.inl rfl) rfl (by decide) (yr_ofInt rfl Try.underlying2 Try.underlying23 rfl) ?_
      refine Dr.SW.r rfl (.inl rfl) rfl (by decide) (show YR _ _ _ (.float .f32 (w2w x42)) from (by unfold w2w; exact yr_float rfl (.inr (.inr (.inr rfl))) rfl rfl)) ?_
      refine Dr.SW.new1 rfl (.inl rfl) rfl (by decide) (yn_lit rfl Try.underlying42 elt23_Dd rfl (by decide) (.cons rfl .nil) (by first | (simp; done) | (simp [cn, cn1, cn0]; done)) rfl rfl rfl) ?_
      intro b46
      refine Dr.SW.c rfl (.inl rfl) rfl (by decide) (yc_appendz 1 rfl rfl Try.underlying42 elt23_Dd rfl rfl (Dr.UpdF.app (by repeat (first | exact UpdF.here | apply UpdF.there | apply UpdF.thereS))) (by first | exact Sees.root (by assumption) | exact Sees.own (by (try simp only [List.append_assoc, List.cons_append, List.nil_append]); repeat (first | exact List.mem_cons_self | exact List.mem_append_left _ (by assumption) | apply List.mem_cons_of_mem | apply List.mem_append_right)) | exact Sees.root (hR _ (by omega)) | exact Sees.own (RowsIn.mem (by (try simp only [List.append_assoc, List.cons_append, List.nil_append]); repeat (first | exact RowsIn.here | exact RowsIn.last | apply RowsIn.there | apply RowsIn.thereS)) _ (by omega)) | exact Sees.own (WRowsIn.mem (by (try simp only [List.append_assoc, List.cons_append, List.nil_append]); repeat (first | exact WRowsIn.here | exact WRowsIn.last | apply WRowsIn.there | apply WRowsIn.thereS)) _ (by omega))) rfl (by first | (rw [fl_length, Nat.mul_one]; done) | (rw [hd_length, Nat.mul_one]; done) | rw [hd_length] | rw [fl_length]) (by first | rfl | simp) (by first | rfl | exact fl_scal _ | exact hd_scal _ _) (by first | rfl | exact fl_scal _) (by omega) (by omega)) ?_
      rintro ⟨a47, c47⟩
      refine Dr.SW.r rfl (.inl rfl) rfl (by decide) (yr_fieldAddr rfl Try.underlying46 rfl rfl sz42_Dd (by decide) rfl) ?_
      refine Dr.SW.t rfl (.inl rfl) rfl (yc_store rfl sz42_Dd rfl rfl (by repeat (first | exact UpdF.here | apply UpdF.there | apply UpdF.thereS)) (.inl ⟨rfl, rfl⟩) rfl (by first | exact Nat.le_of_ble_eq_true rfl | simp) (by decide) rfl) ?_
      rintro ⟨⟩
      refine Dr.SW.done ?_
      refine Dr.eqO (by simp only [List.append_nil, List.append_assoc, List.cons_append, List.nil_append] <;> rfl) ?_
      refine VE.then_wp ?_
      refine Dr.V.drawR [(0, 5), (1, 5), (2, 5), (3, 3), (4, 5), (5, 5), (6, 5), (7, 1), (8, 3), (9, 5), (10, 4)] [] [⟨some ⟨q, 0, none⟩, [.slice a bs.length c, .int .i64 ((nn1 + 1 : Nat) : Int), .int .u64 ((s42 : Nat) : Int)], 3, 152⟩, ⟨a47, fl (ws ++ [w2w x42]), c47 * 1, 23⟩, ⟨ag, fl gs, cg * 1, 23⟩] _ mixed_Dd (by kernel_rfl) (fun w hw => by rw [← fl_snoc]; exact Hp.pickS hw (by apply Pick.e3x; all_goals (repeat (first | exact Rem.here | exact Rem.all | exact Rem.hereS | apply Rem.there | apply Rem.thereS)))) ?_
      refine Dr.SW.r rfl (.inl rfl) rfl (by decide) (yr_fieldAddr rfl Try.underlying46 rfl rfl sz42_Dd (by decide) rfl) ?_
      refine Dr.SW.p rfl (.inl rfl) rfl (by decide) (yq_load rfl fb42_Dd rfl (by first | exact Sees.root (by assumption) | exact Sees.own (by (try simp only [List.append_assoc, List.cons_append, List.nil_append]); repeat (first | exact List.mem_cons_self | exact List.mem_append_left _ (by assumption) | apply List.mem_cons_of_mem | apply List.mem_append_right)) | exact Sees.root (hR _ (by omega)) | exact Sees.own (RowsIn.mem (by (try simp only [List.append_assoc, List.cons_append, List.nil_append]); repeat (first | exact RowsIn.here | exact RowsIn.last | apply RowsIn.there | apply RowsIn.thereS)) _ (by omega)) | exact Sees.own (WRowsIn.mem (by (try simp only [List.append_assoc, List.cons_append, List.nil_append]); repeat (first | exact WRowsIn.here | exact WRowsIn.last | apply WRowsIn.there | apply WRowsIn.thereS)) _ (by omega))) rfl) ?_
      refine Dr.SW.r rfl (.inl rfl) rfl (by decide) (yr_move rfl rfl) ?_
      refine Dr.SW.c rfl (.inl rfl) rfl (by decide) (yc_callfR rfl known97_Dd (.cons rfl (.cons rfl .nil)) (by apply Pick.one; repeat (first | exact Rem.here | exact Rem.all | exact Rem.hereS | apply Rem.there | apply Rem.thereS)) (c_pick (m := 4) hA hb (by omega) (by omega) (by omega) (by decide) (by decide))) ?_
      rintro ⟨⟨x52, s52⟩, hx52, hs52⟩
      dsimp only at hx52 hs52
      refine Dr.SW.r rfl (.inl rfl) rfl (by decide) (yr_int (r := 1 + (x52 : Int)) rfl rfl rfl (.inl ⟨rfl, wrap_in (by (try dsimp only); omega)⟩)) ?_
      refine Dr.SW.r rfl (.inl rfl) rfl (by decide) (yr_ofInt rfl Try.underlying2 Try.underlying23 rfl) ?_
      refine Dr.SW.r rfl (.inl rfl) rfl (by decide) (show YR _ _ _ (.float .f32 (g2w x52)) from (by unfold g2w; exact yr_float rfl (.inr (.inr (.inr rfl))) rfl rfl)) ?_
      refine Dr.SW.new1 rfl (.inl rfl) rfl (by decide) (yn_lit rfl Try.underlying42 elt23_Dd rfl (by decide) (.cons rfl .nil) (by first | (simp; done) | (simp [cn, cn1, cn0]; done)) rfl rfl rfl) ?_
      intro b56
      refine Dr.SW.c rfl (.inl rfl) rfl (by decide) (yc_appendz 1 rfl rfl Try.underlying42 elt23_Dd rfl rfl (Dr.UpdF.app (by repeat (first | exact UpdF.here | apply UpdF.there | apply UpdF.thereS))) (by first | exact Sees.root (by assumption) | exact Sees.own (by (try simp only [List.append_assoc, List.cons_append, List.nil_append]); repeat (first | exact List.mem_cons_self | exact List.mem_append_left _ (by assumption) | apply List.mem_cons_of_mem | apply List.mem_append_right)) | exact Sees.root (hR _ (by omega)) | exact Sees.own (RowsIn.mem (by (try simp only [List.append_assoc, List.cons_append, List.nil_append]); repeat (first | exact RowsIn.here | exact RowsIn.last | apply RowsIn.there | apply RowsIn.thereS)) _ (by omega)) | exact Sees.own (WRowsIn.mem (by (try simp only [List.append_assoc, List.cons_append, List.nil_append]); repeat (first | exact WRowsIn.here | exact WRowsIn.last | apply WRowsIn.there | apply WRowsIn.thereS)) _ (by omega))) rfl (by first | (rw [fl_length, Nat.mul_one]; done) | (rw [hd_length, Nat.mul_one]; done) | rw [hd_length] | rw [fl_length]) (by first | rfl | simp) (by first | rfl | exact fl_scal _ | exact hd_scal _ _) (by first | rfl | exact fl_scal _) (by omega) (by omega)) ?_
      rintro ⟨a57, c57⟩
      refine Dr.SW.r rfl (.inl rfl) rfl (by decide) (yr_fieldAddr rfl Try.underlying46 rfl rfl sz42_Dd (by decide) rfl) ?_
      refine Dr.SW.t rfl (.inl rfl) rfl (yc_store rfl sz42_Dd rfl rfl (by repeat (first | exact UpdF.here | apply UpdF.there | apply UpdF.thereS)) (.inl ⟨rfl, rfl⟩) rfl (by first | exact Nat.le_of_ble_eq_true rfl | simp) (by decide) rfl) ?_
      rintro ⟨⟩
      refine Dr.SW.done ?_
      refine Dr.eqO (by simp only [List.append_nil, List.append_assoc, List.cons_append, List.nil_append] <;> rfl) ?_
      refine VE.block_normal ?_
      refine VE.then_wp ?_
      refine V.region ?_
      refine VL.r (.inl rfl) rfl (by decide) (yr_move rfl rfl) ?_
      refine VL.r (.inl rfl) rfl (by decide) (yr_int rfl rfl rfl (.inr (.inl ⟨rfl, wrap_in (by (try dsimp only); omega)⟩))) ?_
      refine VL.r (.inl rfl) rfl (by decide) (yr_assign rfl rfl) ?_
      refine VL.nil ?_
      refine VE.round (xss ++ [xs], upd f xss.length (ar, cr), a37, c37, ws ++ [w2w x42], a47, c47, gs ++ [g2w x52], a57, c57, nn1 + 1 + 1, s52) ?_ ?_ ?_ ?_ ?_
      · exact (.cons (congrArg (fun i => some (Value.int .i64 i)) (by rw [List.length_append]; show _ = (((1 + x13) - (xss.length + 1) : Nat) : Int); omega)) .nil)
      · exact (.cons rfl (.cons rfl (.cons rfl (.cons rfl .nil))))
      · exact (fun w hw => by
          dsimp only
          simp only [← hd_snoc _ _ (ar, cr), ← rents_snoc _ _ _ (ar, cr), ← fl_snoc gs, List.length_append, List.length_cons, List.length_nil, Nat.zero_add, List.append_assoc, List.cons_append, List.nil_append]
          exact hw.pick (by apply Pick.cons1; (· repeat (first | exact Rem.here | exact Rem.all | exact Rem.hereS | apply Rem.there | apply Rem.thereS)); apply Pick.cons1; (· repeat (first | exact Rem.here | exact Rem.all | exact Rem.hereS | apply Rem.there | apply Rem.thereS)); apply Pick.cons1; (· repeat (first | exact Rem.here | exact Rem.all | exact Rem.hereS | apply Rem.there | apply Rem.thereS)); apply Pick.cons1; (· repeat (first | exact Rem.here | exact Rem.all | exact Rem.hereS | apply Rem.there | apply Rem.thereS)); apply Pick.cons1; (· repeat (first | exact Rem.here | exact Rem.all | exact Rem.hereS | apply Rem.there | apply Rem.thereS)); apply Pick.cons1; (· repeat (first | exact Rem.here | exact Rem.all | exact Rem.hereS | apply Rem.there | apply Rem.thereS)); apply Pick.app1; (· repeat (first | exact Rem.here | exact Rem.all | exact Rem.hereS | apply Rem.there | apply Rem.thereS)); apply Pick.cons1; (· repeat (first | exact Rem.here | exact Rem.all | exact Rem.hereS | apply Rem.there | apply Rem.thereS)); apply Pick.last; repeat (first | exact Rem.here | exact Rem.all | exact Rem.hereS | apply Rem.there | apply Rem.thereS)))
      · dsimp only
        simp only [List.length_append, List.length_cons, List.length_nil, Nat.zero_add]
        exact ⟨by omega, mem_app hr9 (mem_one ⟨by omega, hx9⟩), ⟨by omega, by omega⟩, mem_app hW9 (mem_one ⟨x42, hx42, rfl⟩), mem_app hG9 (mem_one ⟨x52, hx52, rfl⟩), by omega, hs52⟩
      · dsimp only; rw [List.length_append]; show (1 + x13) - (xss.length + 1) < (1 + x13) - xss.length; omega
  · skip
    replace h1 := ic_gtr' h1
    have hlM : xss.length = (1 + x13) := by omega
    refine V.exit ?_
    refine VE.then_exit ?_
    refine VE.then_exit ?_
    refine VE.block_here ?_
    refine VE.then_wp ?_
    refine V.seq ?_
    refine V.region ?_
    refine VL.q (.inl rfl) rfl (by decide) (yq_loadS rfl Try.underlying46 sz46_Dd rfl (by first | exact Sees.root (by assumption) | exact Sees.own (by repeat (first | exact List.mem_cons_self | exact List.mem_append_left _ (by assumption) | apply List.mem_cons_of_mem | apply List.mem_append_right)) | exact Sees.root (hR _ (by omega)) | exact Sees.own (RowsIn.mem (by repeat (first | exact RowsIn.here | exact RowsIn.last | apply RowsIn.there | apply RowsIn.thereS)) _ (by omega)) | exact Sees.own (WRowsIn.mem (by repeat (first | exact WRowsIn.here | exact WRowsIn.last | apply WRowsIn.there | apply WRowsIn.thereS)) _ (by omega))) rfl rfl rfl) ?_
    refine VL.s (.inl rfl) rfl (yc_store rfl sz46_Dd rfl rfl (by repeat (first | exact UpdF.here | apply UpdF.there | apply UpdF.thereS)) (.inr ⟨rfl, rfl⟩) rfl (by first | exact Nat.le_of_ble_eq_true rfl | simp) (by decide) rfl) ?_
    rintro ⟨⟩
    refine VL.nil ?_
    refine VE.then_wp ?_
    refine V.ret ?_
    refine retC rfl (rv_cellS rfl Try.underlying46 sz46_Dd (by first | exact Sees.root (by assumption) | exact Sees.own (by repeat (first | exact List.mem_cons_self | exact List.mem_append_left _ (by assumption) | apply List.mem_cons_of_mem | apply List.mem_append_right)) | exact Sees.root (hR _ (by omega)) | exact Sees.own (RowsIn.mem (by repeat (first | exact RowsIn.here | exact RowsIn.last | apply RowsIn.there | apply RowsIn.thereS)) _ (by omega)) | exact Sees.own (WRowsIn.mem (by repeat (first | exact WRowsIn.here | exact WRowsIn.last | apply WRowsIn.there | apply WRowsIn.thereS)) _ (by omega))) rfl rfl rfl) (by nofun) (fun w1 hw => ?_)
    refine ⟨⟨⟨(((ah, ch), f), (aw, cw), (ag, cg)), xss, ws, gs, (1 + x9), nn, sd⟩, ⟨by show 1 ≤ xss.length; omega, by show xss.length ≤ 10; omega, by show 1 ≤ (1 + x9); omega, by show (1 + x9) ≤ 3; omega, hr9, hw9, hg9, hW9, hG9⟩⟩, rfl, ?_⟩
    have h9 : Hp w0 (⟨some ⟨q, 0, none⟩, [.slice a bs.length c, .int .i64 ((nn : Nat) : Int), .int .u64 ((sd : Nat) : Int)], 3, 152⟩ :: ⟨ag, fl gs, cg * 1, 23⟩ :: ⟨aw, fl ws, cw * 1, 23⟩ :: ⟨ah, hd f xss, ch * 1, 42⟩ :: (rents 23 f xss ++ F)) w1 := hw.pick (by apply Pick.cons1; (· repeat (first | exact Rem.here | exact Rem.all | exact Rem.hereS | apply Rem.there | apply Rem.thereS)); apply Pick.cons1; (· repeat (first | exact Rem.here | exact Rem.all | exact Rem.hereS | apply Rem.there | apply Rem.thereS)); apply Pick.cons1; (· repeat (first | exact Rem.here | exact Rem.all | exact Rem.hereS | apply Rem.there | apply Rem.thereS)); apply Pick.cons1; (· repeat (first | exact Rem.here | exact Rem.all | exact Rem.hereS | apply Rem.there | apply Rem.thereS)); apply Pick.app1; (· repeat (first | exact Rem.here | exact Rem.all | exact Rem.hereS | apply Rem.there | apply Rem.thereS)); apply Pick.last; repeat (first | exact Rem.here | exact Rem.all | exact Rem.hereS | apply Rem.there | apply Rem.thereS))
    exact h9.perm' (show ((([⟨some ⟨q, 0, none⟩, [.slice a bs.length c, .int .i64 ((nn : Nat) : Int), .int .u64 ((sd : Nat) : Int)], 3, 152⟩, ⟨ag, fl gs, cg * 1, 23⟩, ⟨aw, fl ws, cw * 1, 23⟩, ⟨ah, hd f xss, ch * 1, 42⟩] : List Ent) ++ rents 23 f xss) ++ F).Perm (F ++ (([⟨some ⟨q, 0, none⟩, [.slice a bs.length c, .int .i64 ((nn : Nat) : Int), .int .u64 ((sd : Nat) : Int)], 3, 152⟩, ⟨ag, fl gs, cg * 1, 23⟩, ⟨aw, fl ws, cw * 1, 23⟩, ⟨ah, hd f xss, ch * 1, 42⟩] : List Ent) ++ rents 23 f xss)) from List.perm_append_comm)

theorem c_b10Design {w : World} {a : Option Addr} {c : Nat} {bs : List Int} (hA : Cl w a (bl bs)) (hb : Bytes bs) (hl : bs.length ≤ 2000000) : New Try.prog 34 [.slice a bs.length c] w (fun x : {x : DX // DDok x.xss x.ws x.gs x.n} => x.1.v) (fun x => ⟨x.1.p.2.2.1, fl (x.1.gs), x.1.p.2.2.2 * 1, 23⟩ :: ⟨x.1.p.2.1.1, fl (x.1.ws), x.1.p.2.1.2 * 1, 23⟩ :: ⟨x.1.p.1.1.1, hd x.1.p.1.2 (x.1.xss), x.1.p.1.1.2 * 1, 42⟩ :: rents 23 x.1.p.1.2 (x.1.xss)) := by
  refine New.enter Try.func34 rfl Try.ntmps34 (Nat.le_of_ble_eq_true rfl) ?_
  refine V.seq ?_
  refine V.region ?_
  refine VL.new1 (.inl rfl) rfl (by decide) (yn_alloc rfl zero46_Dd rfl) ?_
  intro b2
  refine VL.nil ?_
  refine VE.then_wp ?_
  refine V.seq ?_
  refine V.region ?_
  refine VL.r (.inl rfl) rfl (by decide) (yr_move rfl rfl) ?_
  refine VL.new1 (.inl rfl) rfl (by decide) (yn_callf rfl known95_Dd (.cons rfl .nil) (fun w hw => c_from)) ?_
  intro b5
  refine VL.r (.inl rfl) rfl (by decide) (yr_assign rfl rfl) ?_
  refine VL.nil ?_
  refine VE.then_wp ?_
  refine V.seq ?_
  refine V.region ?_
  refine VL.r (.inl rfl) rfl (by decide) (yr_move rfl rfl) ?_
  refine VL.c (.inl rfl) rfl (by decide) (yc_callf rfl known96_Dd (.cons rfl .nil) (by apply Pick.one; repeat (first | exact Rem.here | apply Rem.there | apply Rem.thereS)) (c_drawOk (n := 0) (sd := 0) hA hb hl (by decide) (by decide))) ?_
  rintro ⟨⟨⟨⟨⟨a7, c7⟩, f7⟩, ⟨p7, q7⟩, ⟨r7, s7⟩⟩, xss7, ws7, gs7, n7, at7, sd7⟩, hd7⟩
  dsimp only at hd7
  refine VL.s (.inl rfl) rfl (yc_store rfl sz46_Dd rfl rfl (by repeat (first | exact UpdF.here | apply UpdF.there | apply UpdF.thereS)) (.inr ⟨rfl, rfl⟩) rfl (by first | exact Nat.le_of_ble_eq_true rfl | simp) (by decide) rfl) ?_
  rintro ⟨⟩
  refine VL.nil ?_
  refine VE.then_wp ?_
  refine V.ret ?_
  refine retC rfl (rv_cellS rfl Try.underlying46 sz46_Dd (by first | exact Sees.root (by assumption) | exact Sees.own (by repeat (first | exact List.mem_cons_self | exact List.mem_append_left _ (by assumption) | apply List.mem_cons_of_mem | apply List.mem_append_right)) | exact Sees.root (hR _ (by omega)) | exact Sees.own (RowsIn.mem (by repeat (first | exact RowsIn.here | exact RowsIn.last | apply RowsIn.there | apply RowsIn.thereS)) _ (by omega)) | exact Sees.own (WRowsIn.mem (by repeat (first | exact WRowsIn.here | exact WRowsIn.last | apply WRowsIn.there | apply WRowsIn.thereS)) _ (by omega))) rfl rfl rfl) (by nofun) (fun w1 hw => ?_)
  exact ⟨⟨⟨(((a7, c7), f7), (p7, q7), (r7, s7)), xss7, ws7, gs7, n7, at7, sd7⟩, hd7⟩, rfl, (hw.pick (by apply Pick.cons1; (· repeat (first | exact Rem.here | exact Rem.all | exact Rem.hereS | apply Rem.there | apply Rem.thereS)); apply Pick.cons1; (· repeat (first | exact Rem.here | exact Rem.all | exact Rem.hereS | apply Rem.there | apply Rem.thereS)); apply Pick.cons1; (· repeat (first | exact Rem.here | exact Rem.all | exact Rem.hereS | apply Rem.there | apply Rem.thereS)); apply Pick.last; repeat (first | exact Rem.here | exact Rem.all | exact Rem.hereS | apply Rem.there | apply Rem.thereS))).outs (List.Sublist.refl _)⟩

theorem c_b10X {w : World} {a : Option Addr} {c m : Nat} {bs : List Int} (hA : Cl w a (bl bs)) (hb : Bytes bs) (hl : bs.length ≤ 2000000) (hm : m ≤ 1000) : New Try.prog 35 [.slice a bs.length c, .int .i64 (m : Int)] w (fun x : {x : (Option Addr × Nat) × List Nat // x.2.length = m ∧ ∀ y ∈ x.2, Q17 y} => .slice x.1.1.1 x.1.2.length x.1.1.2) (fun x => [⟨x.1.1.1, fl x.1.2, x.1.1.2 * 1, 23⟩]) := by
  refine New.enter Try.func35 rfl Try.ntmps35 (Nat.le_of_ble_eq_true rfl) ?_
  refine V.seq ?_
  refine V.region ?_
  refine VL.r (.inl rfl) rfl (by decide) (yr_assign (u := .slice none 0 0) rfl rfl) ?_
  refine VL.nil ?_
  refine VE.then_wp ?_
  refine V.seq ?_
  refine V.region ?_
  refine VL.r (.inl rfl) rfl (by decide) (yr_move rfl rfl) ?_
  refine VL.new1 (.inl rfl) rfl (by decide) (yn_callf rfl known95_Dd (.cons rfl .nil) (fun w hw => c_from)) ?_
  intro b8
  refine VL.r (.inl rfl) rfl (by decide) (yr_assign rfl rfl) ?_
  refine VL.nil ?_
  refine VE.then_wp ?_
  refine V.seq ?_
  refine V.region ?_
  refine VL.new1 (.inl rfl) rfl (by decide) (yn_lit rfl Try.underlying42 elt23_Dd rfl (by decide) .nil (by first | (simp; done) | (simp [cn, cn1, cn0]; done)) rfl rfl rfl) ?_
  intro b9
  refine VL.r (.inl rfl) rfl (by decide) (yr_assign rfl rfl) ?_
  refine VL.nil ?_
  refine VE.then_wp ?_
  refine V.seq ?_
  refine V.block ?_
  refine V.loopc (G := (List Nat) × (Option Addr) × Nat × Nat × Nat) [(5, _)] (fun ⟨xs, ar, cr, nn, sd⟩ => xs.length ≤ m ∧ (∀ y ∈ xs, Q17 y) ∧ nn ≤ xs.length ∧ sd < 18446744073709551616) (fun ⟨xs, ar, cr, nn, sd⟩ => [⟨ar, fl xs, cr * 1, 23⟩, ⟨some ⟨b8, 0, none⟩, [.slice a bs.length c, .int .i64 ((nn : Nat) : Int), .int .u64 ((sd : Nat) : Int)], 3, 152⟩]) (fun ⟨xs, ar, cr, nn, sd⟩ => [(1, .int .i64 ((m - xs.length : Nat) : Int)), (6, .slice ar xs.length cr)]) (fun ⟨xs, ar, cr, nn, sd⟩ => m - xs.length) ([], some ⟨b9, 0, none⟩, 0, 0, 0) (.cons rfl .nil) (.cons rfl (.cons rfl .nil)) ?_ ?_ ?_
  · exact (fun w hw => by dsimp only; rw [fl_nil]; exact hw.pick (by apply Pick.cons1; (· repeat (first | exact Rem.here | exact Rem.all | exact Rem.hereS | apply Rem.there | apply Rem.thereS)); apply Pick.cons1; (· repeat (first | exact Rem.here | exact Rem.all | exact Rem.hereS | apply Rem.there | apply Rem.thereS)); exact Pick.nil))
  · exact (by exact ⟨Nat.zero_le _, fun y h => (by cases h), Nat.le_refl _, by decide⟩)
  rintro ⟨xs, ar, cr, nn, sd⟩ ⟨hm9, hx9, hn8, hs8⟩
  show V _ _ _ [⟨ar, fl xs, cr * 1, 23⟩, ⟨some ⟨b8, 0, none⟩, [.slice a bs.length c, .int .i64 ((nn : Nat) : Int), .int .u64 ((sd : Nat) : Int)], 3, 152⟩] ([(1, .int .i64 ((m - xs.length : Nat) : Int)), (6, .slice ar xs.length cr)] ++ [(5, _)]) _ _
  refine V.seq ?_
  refine V.seq ?_
  refine V.region ?_
  refine VL.r (.inl rfl) rfl (by decide) (yr_move rfl rfl) ?_
  refine VL.r (.inl rfl) rfl (by decide) (yr_icmp rfl (.inr (.inr (.inr (.inr (.inl rfl))))) rfl rfl) ?_
  refine VL.nil ?_
  refine VE.then_wp ?_
  refine V.cond rfl (fun h1 => ?_) (fun h1 => ?_)
  · skip
    replace h1 := ic_gtr h1
    refine V.skip ?_
    refine VE.then_wp ?_
    refine V.seq ?_
    refine V.block ?_
    refine V.region ?_
    refine VL.r (.inl rfl) rfl (by decide) (yr_move rfl rfl) ?_
    refine VL.r (.inl rfl) rfl (by decide) (yr_move rfl rfl) ?_
    refine VL.c (.inl rfl) rfl (by decide) (yc_callf rfl known97_Dd (.cons rfl (.cons rfl .nil)) (by apply Pick.one; repeat (first | exact Rem.here | apply Rem.there | apply Rem.thereS)) (c_pick (m := 17) hA hb (by omega) (by omega) (by omega) (by decide) (by decide))) ?_
    rintro ⟨⟨x16, s16⟩, hx16, hs16⟩
    dsimp only at hx16 hs16
    refine VL.r (.inl rfl) rfl (by decide) (yr_int rfl rfl rfl (.inr (.inl ⟨rfl, wrap_in (by (try dsimp only); omega)⟩))) ?_
    refine VL.r (.inl rfl) rfl (by decide) (yr_ofInt rfl Try.underlying2 Try.underlying23 rfl) ?_
    refine VL.r (.inl rfl) rfl (by decide) (show YR _ _ _ (.float .f32 (qw x16)) from (by unfold qw; exact yr_float rfl (.inr (.inr (.inr rfl))) rfl rfl)) ?_
    refine VL.new1 (.inl rfl) rfl (by decide) (yn_lit rfl Try.underlying42 elt23_Dd rfl (by decide) (.cons rfl .nil) (by first | (simp; done) | (simp [cn, cn1, cn0]; done)) rfl rfl rfl) ?_
    intro b20
    refine VL.c (.inl rfl) rfl (by decide) (yc_appendz 1 rfl rfl Try.underlying42 elt23_Dd rfl rfl (by repeat (first | exact UpdF.here | apply UpdF.there | apply UpdF.thereS)) (by first | exact Sees.root (by assumption) | exact Sees.own (by repeat (first | exact List.mem_cons_self | exact List.mem_append_left _ (by assumption) | apply List.mem_cons_of_mem | apply List.mem_append_right)) | exact Sees.root (hR _ (by omega)) | exact Sees.own (RowsIn.mem (by repeat (first | exact RowsIn.here | exact RowsIn.last | apply RowsIn.there | apply RowsIn.thereS)) _ (by omega)) | exact Sees.own (WRowsIn.mem (by repeat (first | exact WRowsIn.here | exact WRowsIn.last | apply WRowsIn.there | apply WRowsIn.thereS)) _ (by omega))) rfl (by rw [fl_length, Nat.mul_one]) rfl (by first | rfl | exact fl_scal _) rfl (by omega) (by omega)) ?_
    rintro ⟨a21, c21⟩
    refine VL.r (.inl rfl) rfl (by decide) (yr_assign rfl rfl) ?_
    refine VL.nil ?_
    refine VE.block_normal ?_
    refine VE.then_wp ?_
    refine V.region ?_
    refine VL.r (.inl rfl) rfl (by decide) (yr_move rfl rfl) ?_
    refine VL.r (.inl rfl) rfl (by decide) (yr_int rfl rfl rfl (.inr (.inl ⟨rfl, wrap_in (by (try dsimp only); omega)⟩))) ?_
    refine VL.r (.inl rfl) rfl (by decide) (yr_assign rfl rfl) ?_
    refine VL.nil ?_
    refine VE.round (xs ++ [qw x16], a21, c21, nn + 1, s16) ?_ ?_ ?_ ?_ ?_
    · exact (.cons (congrArg (fun i => some (Value.int .i64 i)) (by rw [List.length_append]; show _ = ((m - (xs.length + 1) : Nat) : Int); omega)) (.cons (congrArg (fun n => some (Value.slice _ n _)) (by rw [List.length_append]; rfl)) .nil))
    · exact (.cons rfl .nil)
    · exact (fun w hw => by dsimp only; rw [← fl_snoc]; exact hw.pick (by apply Pick.cons1; (· repeat (first | exact Rem.here | exact Rem.all | exact Rem.hereS | apply Rem.there | apply Rem.thereS)); apply Pick.cons1; (· repeat (first | exact Rem.here | exact Rem.all | exact Rem.hereS | apply Rem.there | apply Rem.thereS)); exact Pick.nil))
    · dsimp only
      simp only [List.length_append, List.length_cons, List.length_nil, Nat.zero_add]
      exact ⟨by omega, mem_app hx9 (mem_one ⟨x16, hx16, rfl⟩), by omega, hs16⟩
    · dsimp only; rw [List.length_append]; show m - (xs.length + 1) < m - xs.length; omega
  · skip
    replace h1 := ic_gtr' h1
    refine V.exit ?_
    refine VE.then_exit ?_
    refine VE.then_exit ?_
    refine VE.block_here ?_
    refine VE.then_wp ?_
    refine V.seq ?_
    refine V.region ?_
    refine VL.r (.inl rfl) rfl (by decide) (yr_move rfl rfl) ?_
    refine VL.r (.inl rfl) rfl (by decide) (yr_assign rfl rfl) ?_
    refine VL.nil ?_
    refine VE.then_wp ?_
    refine V.ret ?_
    refine ret1 rfl rfl (fun w1 hw => ?_)
    exact ⟨⟨((ar, cr), xs), by show xs.length = m; omega, hx9⟩, rfl, (hw.pick (by apply Pick.cons1; (· repeat (first | exact Rem.here | exact Rem.all | exact Rem.hereS | apply Rem.there | apply Rem.thereS)); exact Pick.nil)).outs (List.Sublist.refl _)⟩

theorem c_b10Long {w : World} {a b : Option Addr} {c d n m : Nat} : Pure Try.prog 33 [.slice a n c, .slice b m d] w (.bool (decide (1048576 < n) || decide (1048576 < m))) := by
  refine Pure.enter Try.func33 rfl Try.ntmps33 (Nat.le_of_ble_eq_true rfl) ?_
  refine V.seq ?_
  refine V.region ?_
  refine VL.r (.inl rfl) rfl (by decide) (yr_assign (u := .bool false) rfl rfl) ?_
  refine VL.nil ?_
  refine VE.then_wp ?_
  refine V.seq ?_
  refine V.region ?_
  refine VL.r (.inl rfl) rfl (by decide) (yr_move rfl rfl) ?_
  refine VL.r (.inl rfl) rfl (by decide) (yr_len rfl Try.underlying62 rfl) ?_
  refine VL.r (.inl rfl) rfl (by decide) (yr_icmp rfl (.inr (.inr (.inr (.inr (.inl rfl))))) rfl rfl) ?_
  refine VL.r (.inl rfl) rfl (by decide) (yr_move rfl rfl) ?_
  refine VX.split 8 _ rfl (fun h1 => ?_) (fun h1 => ?_)
  · skip
    replace h1 := ic_gtr h1
    refine VL.no rfl rfl rfl rfl rfl (by decide) ?_
    refine VL.no rfl rfl rfl rfl rfl (by decide) ?_
    refine VL.no rfl rfl rfl rfl rfl (by decide) ?_
    refine VL.r (.inl rfl) rfl (by decide) (yr_pick_t (u := .bool true) rfl rfl rfl) ?_
    refine VL.r (.inl rfl) rfl (by decide) (yr_assign rfl rfl) ?_
    refine VL.nil ?_
    refine VE.then_wp ?_
    refine V.ret ?_
    refine ret1 rfl rfl (fun w1 hw => ?_)
    first
      | exact ⟨congrArg Value.bool (by rw [decide_eq_true (show 1048576 < n by omega)]; rfl), hw.below⟩
      | exact ⟨congrArg Value.bool (by rw [decide_eq_false (show ¬ 1048576 < n by omega), Bool.false_or]; exact decide_eq_decide.2 (by omega)), hw.below⟩
  · skip
    replace h1 := ic_gtr' h1
    refine VL.r (.inr ⟨_, _, _, rfl, rfl, rfl⟩) rfl (by decide) (yr_move rfl rfl) ?_
    refine VL.r (.inr ⟨_, _, _, rfl, rfl, rfl⟩) rfl (by decide) (yr_len rfl Try.underlying62 rfl) ?_
    refine VL.r (.inr ⟨_, _, _, rfl, rfl, rfl⟩) rfl (by decide) (yr_icmp rfl (.inr (.inr (.inr (.inr (.inl rfl))))) rfl rfl) ?_
    refine VL.r (.inl rfl) rfl (by decide) (yr_pick_f rfl rfl rfl) ?_
    refine VL.r (.inl rfl) rfl (by decide) (yr_assign rfl rfl) ?_
    refine VL.nil ?_
    refine VE.then_wp ?_
    refine V.ret ?_
    refine ret1 rfl rfl (fun w1 hw => ?_)
    first
      | exact ⟨congrArg Value.bool (by rw [decide_eq_true (show 1048576 < n by omega)]; rfl), hw.below⟩
      | exact ⟨congrArg Value.bool (by rw [decide_eq_false (show ¬ 1048576 < n by omega), Bool.false_or]; exact decide_eq_decide.2 (by omega)), hw.below⟩

theorem c_b10At {w : World} {a : Option Addr} {c k m : Nat} {bs : List Int} (hA : Cl w a (bl bs)) (hb : Bytes bs) (hl : bs.length ≤ 2000000) (hm : 1 ≤ m) (hk : k ≤ 100000) : New Try.prog 40 [.slice a bs.length c, .int .i64 (k : Int), .int .i64 (m : Int)] w (fun x : {x : Nat // x < m} => .int .i64 ((x.1 : Nat) : Int)) (fun _ => []) := by
  refine New.enter Try.func40 rfl Try.ntmps40 (Nat.le_of_ble_eq_true rfl) ?_
  refine V.seq ?_
  refine V.region ?_
  refine VL.r (.inl rfl) rfl (by decide) (yr_assign (u := .int .i64 0) rfl rfl) ?_
  refine VL.nil ?_
  refine VE.then_wp ?_
  refine V.seq ?_
  refine V.seq ?_
  refine V.region ?_
  refine VL.r (.inl rfl) rfl (by decide) (yr_move rfl rfl) ?_
  refine VL.r (.inl rfl) rfl (by decide) (yr_icmp rfl (.inr (.inr (.inr (.inl rfl)))) rfl rfl) ?_
  refine VL.nil ?_
  refine VE.then_wp ?_
  refine V.cond rfl (fun h1 => ?_) (fun h1 => ?_)
  · skip
    replace h1 := ic_leq h1
    refine V.seq ?_
    refine V.region ?_
    refine VL.r (.inl rfl) rfl (by decide) (yr_assign (u := .int .i64 0) rfl rfl) ?_
    refine VL.nil ?_
    refine VE.then_wp ?_
    refine V.ret ?_
    refine VE.then_ret ?_
    refine ret1 rfl rfl (fun w1 hw => ?_)
    first
      | exact ⟨⟨0, by omega⟩, rfl, hw.below, (fun _ h => by cases h), List.Pairwise.nil⟩
      | exact ⟨⟨_ % m, Nat.mod_lt _ (by omega)⟩, rfl, hw.below, (fun _ h => by cases h), List.Pairwise.nil⟩
  · skip
    replace h1 := ic_leq' h1
    refine V.skip ?_
    refine VE.then_wp ?_
    refine V.seq ?_
    refine V.seq ?_
    refine V.region ?_
    refine VL.r (.inl rfl) rfl (by decide) (yr_move rfl rfl) ?_
    refine VL.r (.inl rfl) rfl (by decide) (yr_move rfl rfl) ?_
    refine VL.r (.inl rfl) rfl (by decide) (yr_len rfl Try.underlying62 rfl) ?_
    refine VL.r (.inl rfl) rfl (by decide) (yr_icmp rfl (.inr (.inr (.inl rfl))) rfl rfl) ?_
    refine VL.nil ?_
    refine VE.then_wp ?_
    refine V.cond rfl (fun h2 => ?_) (fun h2 => ?_)
    · skip
      replace h2 := ic_lss h2
      have hbn := byte_get hb (show k < bs.length by omega)
      refine V.seq ?_
      refine V.region ?_
      refine VL.r (.inl rfl) rfl (by decide) (yr_move rfl rfl) ?_
      refine VL.r (.inl rfl) rfl (by decide) (yr_move rfl rfl) ?_
      refine VL.q (.inl rfl) rfl (by decide) (yq_idx (k := k) rfl Try.underlying62 sz5_Dd rfl rfl (by first | exact Sees.root (by assumption) | exact Sees.own (by repeat (first | exact List.mem_cons_self | exact List.mem_append_left _ (by assumption) | apply List.mem_cons_of_mem | apply List.mem_append_right)) | exact Sees.root (hR _ (by omega)) | exact Sees.own (RowsIn.mem (by repeat (first | exact RowsIn.here | exact RowsIn.last | apply RowsIn.there | apply RowsIn.thereS)) _ (by omega)) | exact Sees.own (WRowsIn.mem (by repeat (first | exact WRowsIn.here | exact WRowsIn.last | apply WRowsIn.there | apply WRowsIn.thereS)) _ (by omega))) (by first | rfl | omega | (push_cast; rfl) | (push_cast; omega) | exact tmod_nat _ _) (by exact bl_length _) (by omega)) ?_
      refine VL.q (.inl rfl) rfl (by decide) (yq_load (u := .int .u8 (bs.getD k 0)) rfl fb5_Dd rfl (by first | exact Sees.root (by assumption) | exact Sees.own (by repeat (first | exact List.mem_cons_self | exact List.mem_append_left _ (by assumption) | apply List.mem_cons_of_mem | apply List.mem_append_right)) | exact Sees.root (hR _ (by omega)) | exact Sees.own (RowsIn.mem (by repeat (first | exact RowsIn.here | exact RowsIn.last | apply RowsIn.there | apply RowsIn.thereS)) _ (by omega)) | exact Sees.own (WRowsIn.mem (by repeat (first | exact WRowsIn.here | exact WRowsIn.last | apply WRowsIn.there | apply WRowsIn.thereS)) _ (by omega))) (bl_get (by omega))) ?_
      refine VL.r (.inl rfl) rfl (by decide) (yr_intConv (r := bs.getD k 0) rfl Try.underlying5 Try.underlying2 rfl (wrap_in (by omega))) ?_
      refine VL.r (.inl rfl) rfl (by decide) (yr_move rfl rfl) ?_
      refine VL.r (.inl rfl) rfl (by decide) (yr_remN (bs.getD k 0).toNat m rfl rfl rfl (by rw [Int.toNat_of_nonneg hbn.1]) rfl (by omega)) ?_
      refine VL.r (.inl rfl) rfl (by decide) (yr_assign rfl rfl) ?_
      refine VL.nil ?_
      refine VE.then_wp ?_
      refine V.ret ?_
      refine VE.then_ret ?_
      refine ret1 rfl rfl (fun w1 hw => ?_)
      first
        | exact ⟨⟨0, by omega⟩, rfl, hw.below, (fun _ h => by cases h), List.Pairwise.nil⟩
        | exact ⟨⟨_ % m, Nat.mod_lt _ (by omega)⟩, rfl, hw.below, (fun _ h => by cases h), List.Pairwise.nil⟩
    · skip
      replace h2 := ic_lss' h2
      refine V.skip ?_
      refine VE.then_wp ?_
      refine V.seq ?_
      refine V.region ?_
      refine VL.r (.inl rfl) rfl (by decide) (yr_move rfl rfl) ?_
      refine VL.r (.inl rfl) rfl (by decide) (yr_mulN k 37 rfl rfl rfl rfl rfl (by omega)) ?_
      refine VL.r (.inl rfl) rfl (by decide) (yr_addN (k * 37 + 11) rfl rfl rfl (by push_cast; rfl) (by omega)) ?_
      refine VL.r (.inl rfl) rfl (by decide) (yr_move rfl rfl) ?_
      refine VL.r (.inl rfl) rfl (by decide) (yr_remN (k * 37 + 11) m rfl rfl rfl rfl rfl (by omega)) ?_
      refine VL.r (.inl rfl) rfl (by decide) (yr_assign rfl rfl) ?_
      refine VL.nil ?_
      refine VE.then_wp ?_
      refine V.ret ?_
      refine ret1 rfl rfl (fun w1 hw => ?_)
      first
        | exact ⟨⟨0, by omega⟩, rfl, hw.below, (fun _ h => by cases h), List.Pairwise.nil⟩
        | exact ⟨⟨_ % m, Nat.mod_lt _ (by omega)⟩, rfl, hw.below, (fun _ h => by cases h), List.Pairwise.nil⟩

theorem c_b10GapE {w : World} {x y : Nat} {v : Int} (hx : dy .f64 x v) (hy : dy .f64 y v) : Pure Try.prog 39 [.float .f64 x, .float .f64 y] w (.float .f64 (fop .sub .f64 x y)) := by
  refine Pure.enter Try.func39 rfl Try.ntmps39 (Nat.le_of_ble_eq_true rfl) ?_
  refine V.seq ?_
  refine V.region ?_
  refine VL.r (.inl rfl) rfl (by decide) (yr_assign (u := .float .f64 0) rfl rfl) ?_
  refine VL.nil ?_
  refine VE.then_wp ?_
  refine V.seq ?_
  refine V.seq ?_
  refine V.region ?_
  refine VL.r (.inl rfl) rfl (by decide) (yr_move rfl rfl) ?_
  refine VL.r (.inl rfl) rfl (by decide) (yr_move rfl rfl) ?_
  refine VL.r (.inl rfl) rfl (by decide) (yr_fcmp rfl (.inr (.inr (.inl rfl))) rfl rfl) ?_
  refine VL.nil ?_
  refine VE.then_wp ?_
  refine V.cond rfl (fun h1 => ?_) (fun h1 => ?_)
  · skip
    rw [lss_same hx hy] at h1; cases h1
  · skip
    refine V.skip ?_
    refine VE.then_wp ?_
    refine V.seq ?_
    refine V.region ?_
    refine VL.r (.inl rfl) rfl (by decide) (yr_move rfl rfl) ?_
    refine VL.r (.inl rfl) rfl (by decide) (yr_move rfl rfl) ?_
    refine VL.r (.inl rfl) rfl (by decide) (yr_float rfl (.inr (.inl rfl)) rfl rfl) ?_
    refine VL.r (.inl rfl) rfl (by decide) (yr_assign rfl rfl) ?_
    refine VL.nil ?_
    refine VE.then_wp ?_
    refine V.ret ?_
    refine ret1 rfl rfl (fun w1 hw => ?_)
    exact ⟨rfl, hw.below⟩

end Go.Proofs.Ytfignpiphihgfaa


namespace Go.Proofs.Ytfignpiphihgfaa
open Go.RowKit
set_option linter.unusedVariables false
set_option linter.unusedSimpArgs false
set_option maxRecDepth 20000

theorem sz42_Rows : (Try.prog.info? 42).map (·.size) = some 1 := by kernel_rfl
theorem fb42_Rows : flatB Try.prog 42 = true := by kernel_rfl
theorem sz23_Rows : (Try.prog.info? 23).map (·.size) = some 1 := by kernel_rfl
theorem fb23_Rows : flatB Try.prog 23 = true := by kernel_rfl
theorem known175_Rows : Known Try.prog 175 := Known.mk' Try.func175 (by kernel_rfl)
theorem known159_Rows : Known Try.prog 159 := Known.mk' Try.func159 (by kernel_rfl)
theorem known116_Rows : Known Try.prog 116 := Known.mk' Try.func116 (by kernel_rfl)
theorem known161_Rows : Known Try.prog 161 := Known.mk' Try.func161 (by kernel_rfl)
theorem known160_Rows : Known Try.prog 160 := Known.mk' Try.func160 (by kernel_rfl)
theorem known162_Rows : Known Try.prog 162 := Known.mk' Try.func162 (by kernel_rfl)
theorem c_idxF {w : World} {a : Option Addr} {c : Nat} {xs : List Nat} {g : FuncId} {cs : Array Value} {p : Nat → Bool} (hA : Cl w a (fl xs)) (hg : Known Try.prog g) (hF : ∀ w', Below w.heap.size w w' → ∀ k, k < xs.length → Pure Try.prog g ([.float .f32 (xs.getD k 0)] ++ cs.toList.map cn) w' (.bool (p k))) (hn : xs.length ≤ 1050000) : Pure Try.prog 175 [.slice a xs.length c, .func (.func g) #[] cs] w (.int .i64 (idxI p xs.length)) := by
  refine Pure.enter Try.func175 rfl Try.ntmps175 (Nat.le_of_ble_eq_true rfl) ?_
  refine V.seq ?_
  refine V.region ?_
  refine VL.r (.inl rfl) rfl (by decide) (yr_assign (u := .int .i64 0) rfl rfl) ?_
  refine VL.nil ?_
  refine VE.then_wp ?_
  refine V.seq ?_
  refine V.seq ?_
  refine V.region ?_
  refine VL.r (.inl rfl) rfl (by decide) (yr_move rfl rfl) ?_
  refine VL.r (.inl rfl) rfl (by decide) (yr_len rfl Try.underlying42 rfl) ?_
  refine VL.r (.inl rfl) rfl (by decide) (yr_move (u := .int .i64 0) rfl rfl) ?_
  refine VL.nil ?_
  refine VE.then_wp ?_
  refine V.block ?_
  refine V.loops (G := Nat) [(0, _), (1, _), (7, _)] (fun (k : Nat) => k ≤ xs.length ∧ ∀ j, j < k → p j = false) (fun (k : Nat) => [(8, .int .i64 (k : Int))]) (fun (k : Nat) => xs.length - k) 0 (.cons rfl (.cons rfl (.cons rfl .nil))) (.cons rfl .nil) ?_ ?_
  · exact (by exact ⟨by omega, fun j h => by omega⟩)
  rintro k ⟨hk, hI⟩
  show V _ _ _ _ ([(8, .int .i64 (k : Int))] ++ [(0, _), (1, _), (7, _)]) _ _
  refine V.seq ?_
  refine V.region ?_
  refine VL.r (.inl rfl) rfl (by decide) (yr_icmp rfl (.inr (.inr (.inl rfl))) rfl rfl) ?_
  refine VL.nil ?_
  refine VE.then_wp ?_
  refine V.seq ?_
  refine V.cond rfl (fun h1 => ?_) (fun h1 => ?_)
  · skip
    replace h1 := ic_lss h1
    refine V.skip ?_
    refine VE.then_wp ?_
    refine V.seq ?_
    refine V.block ?_
    refine V.seq ?_
    refine V.region ?_
    refine VL.r (.inl rfl) rfl (by decide) (yr_move rfl rfl) ?_
    refine VL.r (.inl rfl) rfl (by decide) (yr_assign rfl rfl) ?_
    refine VL.nil ?_
    refine VE.then_wp ?_
    refine V.seq ?_
    refine V.region ?_
    refine VL.r (.inl rfl) rfl (by decide) (yr_move rfl rfl) ?_
    refine VL.r (.inl rfl) rfl (by decide) (yr_move rfl rfl) ?_
    refine VL.r (.inl rfl) rfl (by decide) (yr_move rfl rfl) ?_
    refine VL.q (.inl rfl) rfl (by decide) (yq_idx (k := k) rfl Try.underlying42 sz23_Rows rfl rfl (by first | exact Sees.root (by assumption) | exact Sees.own (by repeat (first | exact List.mem_cons_self | exact List.mem_append_left _ (by assumption) | apply List.mem_cons_of_mem | apply List.mem_append_right)) | exact Sees.root (hR _ (by omega)) | exact Sees.own (RowsIn.mem (by repeat (first | exact RowsIn.here | exact RowsIn.last | apply RowsIn.there | apply RowsIn.thereS)) _ (by omega)) | exact Sees.own (WRowsIn.mem (by repeat (first | exact WRowsIn.here | exact WRowsIn.last | apply WRowsIn.there | apply WRowsIn.thereS)) _ (by omega))) (by first | rfl | omega | (push_cast; rfl) | (push_cast; omega) | exact tmod_nat _ _) (by exact fl_length _) (by omega)) ?_
    refine VL.q (.inl rfl) rfl (by decide) (yq_loadF rfl fb23_Rows rfl (by first | exact Sees.root (by assumption) | exact Sees.own (by repeat (first | exact List.mem_cons_self | exact List.mem_append_left _ (by assumption) | apply List.mem_cons_of_mem | apply List.mem_append_right)) | exact Sees.root (hR _ (by omega)) | exact Sees.own (RowsIn.mem (by repeat (first | exact RowsIn.here | exact RowsIn.last | apply RowsIn.there | apply RowsIn.thereS)) _ (by omega)) | exact Sees.own (WRowsIn.mem (by repeat (first | exact WRowsIn.here | exact WRowsIn.last | apply WRowsIn.there | apply WRowsIn.thereS)) _ (by omega))) (by omega)) ?_
    refine VL.q (.inl rfl) rfl (by decide) (yq_call rfl hg rfl (.cons rfl .nil) (fun w hw => hF w hw.below k (by omega))) ?_
    refine VL.nil ?_
    refine VE.then_wp ?_
    refine V.cond rfl (fun h2 => ?_) (fun h2 => ?_)
    · skip
      refine V.seq ?_
      refine V.region ?_
      refine VL.r (.inl rfl) rfl (by decide) (yr_move rfl rfl) ?_
      refine VL.r (.inl rfl) rfl (by decide) (yr_assign rfl rfl) ?_
      refine VL.nil ?_
      refine VE.then_wp ?_
      refine V.ret ?_
      refine VE.block_ret ?_
      refine VE.then_ret ?_
      refine VE.then_ret ?_
      refine VE.block_ret ?_
      refine VE.then_ret ?_
      refine ret1 rfl rfl (fun w1 hw => ?_)
      exact ⟨by rw [idxI_of hI (by assumption) (by omega)], hw.below⟩
    · skip
      refine V.skip ?_
      refine VE.block_normal ?_
      refine VE.then_wp ?_
      refine V.region ?_
      refine VL.r (.inl rfl) rfl (by decide) (yr_int rfl rfl rfl (.inl ⟨rfl, wrap_in (by omega)⟩)) ?_
      refine VL.r (.inl rfl) rfl (by decide) (yr_move rfl rfl) ?_
      refine VL.nil ?_
      refine VE.round (k + 1) ?_ ?_ ?_ ?_ ?_
      · exact (.cons rfl .nil)
      · exact (.cons rfl (.cons rfl (.cons rfl .nil)))
      · exact (fun w hw => hw)
      · exact ⟨by omega, fun j hj => by rcases Nat.lt_or_ge j k with h | h; exact hI j h; obtain rfl : j = k := (by omega); assumption⟩
      · (try dsimp only); omega
  · skip
    replace h1 := ic_lss' h1
    refine V.exit ?_
    refine VE.then_exit ?_
    refine VE.then_exit ?_
    refine VE.block_here ?_
    refine VE.then_wp ?_
    refine V.seq ?_
    refine V.region ?_
    refine VL.r (.inl rfl) rfl (by decide) (yr_assign (u := .int .i64 (-1)) rfl rfl) ?_
    refine VL.nil ?_
    refine VE.then_wp ?_
    refine V.ret ?_
    refine ret1 rfl rfl (fun w1 hw => ?_)
    obtain rfl : k = xs.length := by omega
    exact ⟨by rw [idxI_no hI], hw.below⟩

theorem c_hasF {w : World} {a : Option Addr} {c : Nat} {xs : List Nat} {g : FuncId} {cs : Array Value} {p : Nat → Bool} (hA : Cl w a (fl xs)) (hg : Known Try.prog g) (hF : ∀ w', Below w.heap.size w w' → ∀ k, k < xs.length → Pure Try.prog g ([.float .f32 (xs.getD k 0)] ++ cs.toList.map cn) w' (.bool (p k))) (hn : xs.length ≤ 1050000) : Pure Try.prog 160 [.slice a xs.length c, .func (.func g) #[] cs] w (.bool (decide (0 ≤ idxI p xs.length))) := by
  refine Pure.enter Try.func160 rfl Try.ntmps160 (Nat.le_of_ble_eq_true rfl) ?_
  refine V.seq ?_
  refine V.region ?_
  refine VL.r (.inl rfl) rfl (by decide) (yr_assign (u := .bool false) rfl rfl) ?_
  refine VL.nil ?_
  refine VE.then_wp ?_
  refine V.seq ?_
  refine V.region ?_
  refine VL.r (.inl rfl) rfl (by decide) (yr_move rfl rfl) ?_
  refine VL.r (.inl rfl) rfl (by decide) (yr_move rfl rfl) ?_
  refine VL.q (.inl rfl) rfl (by decide) (yq_callf rfl known175_Rows (.cons rfl (.cons rfl .nil)) (fun w hw => (c_idxF (by first | exact Sees.root (by assumption) w hw | exact Sees.own (by repeat (first | exact List.mem_cons_self | exact List.mem_append_left _ (by assumption) | apply List.mem_cons_of_mem | apply List.mem_append_right)) w hw) hg (fun w1 hb => hF w1 (hw.below.trans (hb.mono hw.below.size))) (by omega)))) ?_
  refine VL.r (.inl rfl) rfl (by decide) (yr_icmp rfl (.inr (.inr (.inr (.inr (.inr rfl))))) rfl rfl) ?_
  refine VL.r (.inl rfl) rfl (by decide) (yr_assign rfl rfl) ?_
  refine VL.nil ?_
  refine VE.then_wp ?_
  refine V.ret ?_
  refine ret1 rfl rfl (fun w1 hw => ?_)
  exact ⟨rfl, hw.below⟩

theorem c_idxR {w : World} {a : Option Addr} {c : Nat} {f : Nat → Option Addr × Nat} {xss : List (List Nat)} {g : FuncId} {cs : Array Value} {p : Nat → Bool} (hA : Cl w a (hd f xss)) (hg : Known Try.prog g) (hF : ∀ w', Below w.heap.size w w' → ∀ k, k < xss.length → Pure Try.prog g ([.slice (f k).1 (xss.getD k []).length (f k).2] ++ cs.toList.map cn) w' (.bool (p k))) (hn : xss.length ≤ 1050000) : Pure Try.prog 159 [.slice a xss.length c, .func (.func g) #[] cs] w (.int .i64 (idxI p xss.length)) := by
  refine Pure.enter Try.func159 rfl Try.ntmps159 (Nat.le_of_ble_eq_true rfl) ?_
  refine V.seq ?_
  refine V.region ?_
  refine VL.r (.inl rfl) rfl (by decide) (yr_assign (u := .int .i64 0) rfl rfl) ?_
  refine VL.nil ?_
  refine VE.then_wp ?_
  refine V.seq ?_
  refine V.seq ?_
  refine V.region ?_
  refine VL.r (.inl rfl) rfl (by decide) (yr_move rfl rfl) ?_
  refine VL.r (.inl rfl) rfl (by decide) (yr_len rfl Try.underlying41 rfl) ?_
  refine VL.r (.inl rfl) rfl (by decide) (yr_move (u := .int .i64 0) rfl rfl) ?_
  refine VL.nil ?_
  refine VE.then_wp ?_
  refine V.block ?_
  refine V.loops (G := Nat) [(0, _), (1, _), (7, _)] (fun (k : Nat) => k ≤ xss.length ∧ ∀ j, j < k → p j = false) (fun (k : Nat) => [(8, .int .i64 (k : Int))]) (fun (k : Nat) => xss.length - k) 0 (.cons rfl (.cons rfl (.cons rfl .nil))) (.cons rfl .nil) ?_ ?_
  · exact (by exact ⟨by omega, fun j h => by omega⟩)
  rintro k ⟨hk, hI⟩
  show V _ _ _ _ ([(8, .int .i64 (k : Int))] ++ [(0, _), (1, _), (7, _)]) _ _
  refine V.seq ?_
  refine V.region ?_
  refine VL.r (.inl rfl) rfl (by decide) (yr_icmp rfl (.inr (.inr (.inl rfl))) rfl rfl) ?_
  refine VL.nil ?_
  refine VE.then_wp ?_
  refine V.seq ?_
  refine V.cond rfl (fun h1 => ?_) (fun h1 => ?_)
  · skip
    replace h1 := ic_lss h1
    refine V.skip ?_
    refine VE.then_wp ?_
    refine V.seq ?_
    refine V.block ?_
    refine V.seq ?_
    refine V.region ?_
    refine VL.r (.inl rfl) rfl (by decide) (yr_move rfl rfl) ?_
    refine VL.r (.inl rfl) rfl (by decide) (yr_assign rfl rfl) ?_
    refine VL.nil ?_
    refine VE.then_wp ?_
    refine V.seq ?_
    refine V.region ?_
    refine VL.r (.inl rfl) rfl (by decide) (yr_move rfl rfl) ?_
    refine VL.r (.inl rfl) rfl (by decide) (yr_move rfl rfl) ?_
    refine VL.r (.inl rfl) rfl (by decide) (yr_move rfl rfl) ?_
    refine VL.q (.inl rfl) rfl (by decide) (yq_idx (k := k) rfl Try.underlying41 sz42_Rows rfl rfl (by first | exact Sees.root (by assumption) | exact Sees.own (by repeat (first | exact List.mem_cons_self | exact List.mem_append_left _ (by assumption) | apply List.mem_cons_of_mem | apply List.mem_append_right)) | exact Sees.root (hR _ (by omega)) | exact Sees.own (RowsIn.mem (by repeat (first | exact RowsIn.here | exact RowsIn.last | apply RowsIn.there | apply RowsIn.thereS)) _ (by omega)) | exact Sees.own (WRowsIn.mem (by repeat (first | exact WRowsIn.here | exact WRowsIn.last | apply WRowsIn.there | apply WRowsIn.thereS)) _ (by omega))) (by first | rfl | omega | (push_cast; rfl) | (push_cast; omega) | exact tmod_nat _ _) (by exact hd_length _ _) (by omega)) ?_
    refine VL.q (.inl rfl) rfl (by decide) (yq_loadH rfl fb42_Rows rfl (by first | exact Sees.root (by assumption) | exact Sees.own (by repeat (first | exact List.mem_cons_self | exact List.mem_append_left _ (by assumption) | apply List.mem_cons_of_mem | apply List.mem_append_right)) | exact Sees.root (hR _ (by omega)) | exact Sees.own (RowsIn.mem (by repeat (first | exact RowsIn.here | exact RowsIn.last | apply RowsIn.there | apply RowsIn.thereS)) _ (by omega)) | exact Sees.own (WRowsIn.mem (by repeat (first | exact WRowsIn.here | exact WRowsIn.last | apply WRowsIn.there | apply WRowsIn.thereS)) _ (by omega))) (by omega)) ?_
    refine VL.q (.inl rfl) rfl (by decide) (yq_call rfl hg rfl (.cons rfl .nil) (fun w hw => hF w hw.below k (by omega))) ?_
    refine VL.nil ?_
    refine VE.then_wp ?_
    refine V.cond rfl (fun h2 => ?_) (fun h2 => ?_)
    · skip
      refine V.seq ?_
      refine V.region ?_
      refine VL.r (.inl rfl) rfl (by decide) (yr_move rfl rfl) ?_
      refine VL.r (.inl rfl) rfl (by decide) (yr_assign rfl rfl) ?_
      refine VL.nil ?_
      refine VE.then_wp ?_
      refine V.ret ?_
      refine VE.block_ret ?_
      refine VE.then_ret ?_
      refine VE.then_ret ?_
      refine VE.block_ret ?_
      refine VE.then_ret ?_
      refine ret1 rfl rfl (fun w1 hw => ?_)
      exact ⟨by rw [idxI_of hI (by assumption) (by omega)], hw.below⟩
    · skip
      refine V.skip ?_
      refine VE.block_normal ?_
      refine VE.then_wp ?_
      refine V.region ?_
      refine VL.r (.inl rfl) rfl (by decide) (yr_int rfl rfl rfl (.inl ⟨rfl, wrap_in (by omega)⟩)) ?_
      refine VL.r (.inl rfl) rfl (by decide) (yr_move rfl rfl) ?_
      refine VL.nil ?_
      refine VE.round (k + 1) ?_ ?_ ?_ ?_ ?_
      · exact (.cons rfl .nil)
      · exact (.cons rfl (.cons rfl (.cons rfl .nil)))
      · exact (fun w hw => hw)
      · exact ⟨by omega, fun j hj => by rcases Nat.lt_or_ge j k with h | h; exact hI j h; obtain rfl : j = k := (by omega); assumption⟩
      · (try dsimp only); omega
  · skip
    replace h1 := ic_lss' h1
    refine V.exit ?_
    refine VE.then_exit ?_
    refine VE.then_exit ?_
    refine VE.block_here ?_
    refine VE.then_wp ?_
    refine V.seq ?_
    refine V.region ?_
    refine VL.r (.inl rfl) rfl (by decide) (yr_assign (u := .int .i64 (-1)) rfl rfl) ?_
    refine VL.nil ?_
    refine VE.then_wp ?_
    refine V.ret ?_
    refine ret1 rfl rfl (fun w1 hw => ?_)
    obtain rfl : k = xss.length := by omega
    exact ⟨by rw [idxI_no hI], hw.below⟩

theorem c_hasR {w : World} {a : Option Addr} {c : Nat} {f : Nat → Option Addr × Nat} {xss : List (List Nat)} {g : FuncId} {cs : Array Value} {p : Nat → Bool} (hA : Cl w a (hd f xss)) (hg : Known Try.prog g) (hF : ∀ w', Below w.heap.size w w' → ∀ k, k < xss.length → Pure Try.prog g ([.slice (f k).1 (xss.getD k []).length (f k).2] ++ cs.toList.map cn) w' (.bool (p k))) (hn : xss.length ≤ 1050000) : Pure Try.prog 135 [.slice a xss.length c, .func (.func g) #[] cs] w (.bool (decide (0 ≤ idxI p xss.length))) := by
  refine Pure.enter Try.func135 rfl Try.ntmps135 (Nat.le_of_ble_eq_true rfl) ?_
  refine V.seq ?_
  refine V.region ?_
  refine VL.r (.inl rfl) rfl (by decide) (yr_assign (u := .bool false) rfl rfl) ?_
  refine VL.nil ?_
  refine VE.then_wp ?_
  refine V.seq ?_
  refine V.region ?_
  refine VL.r (.inl rfl) rfl (by decide) (yr_move rfl rfl) ?_
  refine VL.r (.inl rfl) rfl (by decide) (yr_move rfl rfl) ?_
  refine VL.q (.inl rfl) rfl (by decide) (yq_callf rfl known159_Rows (.cons rfl (.cons rfl .nil)) (fun w hw => (c_idxR (by first | exact Sees.root (by assumption) w hw | exact Sees.own (by repeat (first | exact List.mem_cons_self | exact List.mem_append_left _ (by assumption) | apply List.mem_cons_of_mem | apply List.mem_append_right)) w hw) hg (fun w1 hb => hF w1 (hw.below.trans (hb.mono hw.below.size))) (by omega)))) ?_
  refine VL.r (.inl rfl) rfl (by decide) (yr_icmp rfl (.inr (.inr (.inr (.inr (.inr rfl))))) rfl rfl) ?_
  refine VL.r (.inl rfl) rfl (by decide) (yr_assign rfl rfl) ?_
  refine VL.nil ?_
  refine VE.then_wp ?_
  refine V.ret ?_
  refine ret1 rfl rfl (fun w1 hw => ?_)
  exact ⟨rfl, hw.below⟩

theorem c_areFin1 {w : World} (x : Nat) : Pure Try.prog 161 [.float .f32 x] w (.bool (!fin x)) := by
  refine Pure.enter Try.func161 rfl Try.ntmps161 (Nat.le_of_ble_eq_true rfl) ?_
  refine V.seq ?_
  refine V.region ?_
  refine VL.r (.inl rfl) rfl (by decide) (yr_assign (u := .bool false) rfl rfl) ?_
  refine VL.nil ?_
  refine VE.then_wp ?_
  refine V.seq ?_
  refine V.region ?_
  refine VL.r (.inl rfl) rfl (by decide) (yr_move rfl rfl) ?_
  refine VL.q (.inl rfl) rfl (by decide) (yq_callf rfl known116_Rows (.cons rfl .nil) (fun w hw => c_IsFinite _)) ?_
  refine VL.r (.inl rfl) rfl (by decide) (yr_not rfl rfl) ?_
  refine VL.r (.inl rfl) rfl (by decide) (yr_assign rfl rfl) ?_
  refine VL.nil ?_
  refine VE.then_wp ?_
  refine V.ret ?_
  refine ret1 rfl rfl (fun w1 hw => ?_)
  exact ⟨rfl, hw.below⟩

theorem c_areNot1 {w : World} (x : Nat) : Pure Try.prog 162 [.float .f32 x] w (.bool (!least x)) := by
  refine Pure.enter Try.func162 rfl Try.ntmps162 (Nat.le_of_ble_eq_true rfl) ?_
  refine V.seq ?_
  refine V.region ?_
  refine VL.r (.inl rfl) rfl (by decide) (yr_assign (u := .bool false) rfl rfl) ?_
  refine VL.nil ?_
  refine VE.then_wp ?_
  refine V.seq ?_
  refine V.region ?_
  refine VL.r (.inl rfl) rfl (by decide) (yr_move rfl rfl) ?_
  refine VL.q (.inl rfl) rfl (by decide) (yq_callf rfl known116_Rows (.cons rfl .nil) (fun w hw => c_IsFinite _)) ?_
  refine VL.r (.inl rfl) rfl (by decide) (yr_not rfl rfl) ?_
  refine VL.r (.inl rfl) rfl (by decide) (yr_move rfl rfl) ?_
  refine VX.split 6 _ rfl (fun h1 => ?_) (fun h1 => ?_)
  · skip
    replace h1 := bnot_t h1
    refine VL.no rfl rfl rfl rfl rfl (by decide) ?_
    refine VL.no rfl rfl rfl rfl rfl (by decide) ?_
    refine VL.r (.inl rfl) rfl (by decide) (yr_pick_t (u := .bool true) rfl rfl rfl) ?_
    refine VL.r (.inl rfl) rfl (by decide) (yr_assign rfl rfl) ?_
    refine VL.nil ?_
    refine VE.then_wp ?_
    refine V.ret ?_
    refine ret1 rfl rfl (fun w1 hw => ?_)
    exact ⟨by simp only [least, *, Bool.false_and, Bool.not_false], hw.below⟩
  · skip
    replace h1 := bnot_f h1
    refine VL.r (.inr ⟨_, _, _, rfl, rfl, rfl⟩) rfl (by decide) (yr_move rfl rfl) ?_
    refine VL.r (.inr ⟨_, _, _, rfl, rfl, rfl⟩) rfl (by decide) (yr_fcmp (b := 0) rfl (.inr (.inr (.inl rfl))) rfl rfl) ?_
    refine VL.r (.inl rfl) rfl (by decide) (yr_pick_f rfl rfl rfl) ?_
    refine VL.r (.inl rfl) rfl (by decide) (yr_assign rfl rfl) ?_
    refine VL.nil ?_
    refine VE.then_wp ?_
    refine V.ret ?_
    refine ret1 rfl rfl (fun w1 hw => ?_)
    exact ⟨by simp only [least, *, Bool.true_and, lss_geq, Bool.not_not], hw.below⟩

theorem c_areFinite {w : World} {a : Option Addr} {c : Nat} {xs : List Nat} (hA : Cl w a (fl xs)) (hn : xs.length ≤ 1050000) : Pure Try.prog 137 [.slice a xs.length c] w (.bool (xs.all fin)) := by
  refine Pure.enter Try.func137 rfl Try.ntmps137 (Nat.le_of_ble_eq_true rfl) ?_
  refine V.seq ?_
  refine V.region ?_
  refine VL.r (.inl rfl) rfl (by decide) (yr_assign (u := .bool false) rfl rfl) ?_
  refine VL.nil ?_
  refine VE.then_wp ?_
  refine V.seq ?_
  refine V.region ?_
  refine VL.r (.inl rfl) rfl (by decide) (yr_move rfl rfl) ?_
  refine VL.q (.inl rfl) rfl (by decide) (yq_callf rfl known160_Rows (.cons rfl (.cons rfl .nil)) (fun w hw => (c_hasF (p := fun k => !fin (xs.getD k 0)) (by first | exact Sees.root (by assumption) w hw | exact Sees.own (by repeat (first | exact List.mem_cons_self | exact List.mem_append_left _ (by assumption) | apply List.mem_cons_of_mem | apply List.mem_append_right)) w hw) known161_Rows (fun w1 _ k _ => c_areFin1 _) (by omega)))) ?_
  refine VL.r (.inl rfl) rfl (by decide) (yr_not rfl rfl) ?_
  refine VL.r (.inl rfl) rfl (by decide) (yr_assign rfl rfl) ?_
  refine VL.nil ?_
  refine VE.then_wp ?_
  refine V.ret ?_
  refine ret1 rfl rfl (fun w1 hw => ?_)
  exact ⟨congrArg Value.bool (all_list fin xs), hw.below⟩

theorem c_areNotNeg {w : World} {a : Option Addr} {c : Nat} {xs : List Nat} (hA : Cl w a (fl xs)) (hn : xs.length ≤ 1050000) : Pure Try.prog 138 [.slice a xs.length c] w (.bool (xs.all least)) := by
  refine Pure.enter Try.func138 rfl Try.ntmps138 (Nat.le_of_ble_eq_true rfl) ?_
  refine V.seq ?_
  refine V.region ?_
  refine VL.r (.inl rfl) rfl (by decide) (yr_assign (u := .bool false) rfl rfl) ?_
  refine VL.nil ?_
  refine VE.then_wp ?_
  refine V.seq ?_
  refine V.region ?_
  refine VL.r (.inl rfl) rfl (by decide) (yr_move rfl rfl) ?_
  refine VL.q (.inl rfl) rfl (by decide) (yq_callf rfl known160_Rows (.cons rfl (.cons rfl .nil)) (fun w hw => (c_hasF (p := fun k => !least (xs.getD k 0)) (by first | exact Sees.root (by assumption) w hw | exact Sees.own (by repeat (first | exact List.mem_cons_self | exact List.mem_append_left _ (by assumption) | apply List.mem_cons_of_mem | apply List.mem_append_right)) w hw) known162_Rows (fun w1 _ k _ => c_areNot1 _) (by omega)))) ?_
  refine VL.r (.inl rfl) rfl (by decide) (yr_not rfl rfl) ?_
  refine VL.r (.inl rfl) rfl (by decide) (yr_assign rfl rfl) ?_
  refine VL.nil ?_
  refine VE.then_wp ?_
  refine V.ret ?_
  refine ret1 rfl rfl (fun w1 hw => ?_)
  exact ⟨congrArg Value.bool (all_list least xs), hw.below⟩

end Go.Proofs.Ytfignpiphihgfaa


namespace Go.Proofs.Ytfignpiphihgfaa
open Go.RowKit
set_option linter.unusedVariables false
set_option linter.unusedSimpArgs false
set_option maxRecDepth 20000

theorem sz41_Design : (Try.prog.info? 41).map (·.size) = some 1 := by kernel_rfl
theorem fb41_Design : flatB Try.prog 41 = true := by kernel_rfl
theorem sz42_Design : (Try.prog.info? 42).map (·.size) = some 1 := by kernel_rfl
theorem fb42_Design : flatB Try.prog 42 = true := by kernel_rfl
theorem known137_Design : Known Try.prog 137 := Known.mk' Try.func137 (by kernel_rfl)
theorem known133_Design : Known Try.prog 133 := Known.mk' Try.func133 (by kernel_rfl)
theorem known134_Design : Known Try.prog 134 := Known.mk' Try.func134 (by kernel_rfl)
theorem known136_Design : Known Try.prog 136 := Known.mk' Try.func136 (by kernel_rfl)
theorem known135_Design : Known Try.prog 135 := Known.mk' Try.func135 (by kernel_rfl)
theorem known138_Design : Known Try.prog 138 := Known.mk' Try.func138 (by kernel_rfl)

theorem c_isRows {w : World} (n : Nat) : Pure Try.prog 133 [.int .i64 (n : Int)] w (.bool (decide (1 ≤ n ∧ n ≤ 48))) := by
  refine Pure.enter Try.func133 rfl Try.ntmps133 (Nat.le_of_ble_eq_true rfl) ?_
  refine V.seq ?_
  refine V.region ?_
  refine VL.r (.inl rfl) rfl (by decide) (yr_assign (u := .bool false) rfl rfl) ?_
  refine VL.nil ?_
  refine VE.then_wp ?_
  refine V.seq ?_
  refine V.region ?_
  refine VL.r (.inl rfl) rfl (by decide) (yr_move rfl rfl) ?_
  refine VL.r (.inl rfl) rfl (by decide) (yr_icmp rfl (.inr (.inr (.inr (.inr (.inr rfl))))) rfl rfl) ?_
  refine VL.r (.inl rfl) rfl (by decide) (yr_move rfl rfl) ?_
  refine VX.split 5 _ rfl (fun h1 => ?_) (fun h1 => ?_)
  · skip
    replace h1 := ic_geq h1
    refine VL.r (.inr ⟨_, _, _, rfl, rfl, rfl⟩) rfl (by decide) (yr_move rfl rfl) ?_
    refine VL.r (.inr ⟨_, _, _, rfl, rfl, rfl⟩) rfl (by decide) (yr_icmp rfl (.inr (.inr (.inr (.inl rfl)))) rfl rfl) ?_
    refine VL.r (.inl rfl) rfl (by decide) (yr_pick_t rfl rfl rfl) ?_
    refine VL.r (.inl rfl) rfl (by decide) (yr_assign rfl rfl) ?_
    refine VL.nil ?_
    refine VE.then_wp ?_
    refine V.ret ?_
    refine ret1 rfl rfl (fun w1 hw => ?_)
    refine ⟨congrArg Value.bool ?_, hw.below⟩
    rw [Bool.eq_iff_iff, decide_eq_true_eq]
    constructor
    · intro h; have := ic_leq h; omega
    · intro h; exact decide_eq_true (by omega)
  · skip
    replace h1 := ic_geq' h1
    refine VL.no rfl rfl rfl rfl rfl (by decide) ?_
    refine VL.no rfl rfl rfl rfl rfl (by decide) ?_
    refine VL.r (.inl rfl) rfl (by decide) (yr_pick_f (u := .bool false) rfl rfl rfl) ?_
    refine VL.r (.inl rfl) rfl (by decide) (yr_assign rfl rfl) ?_
    refine VL.nil ?_
    refine VE.then_wp ?_
    refine V.ret ?_
    refine ret1 rfl rfl (fun w1 hw => ?_)
    exact ⟨by rw [decide_eq_false (by omega)], hw.below⟩

theorem c_isUnknowns {w : World} (n : Nat) : Pure Try.prog 134 [.int .i64 (n : Int)] w (.bool (decide (1 ≤ n ∧ n ≤ 8))) := by
  refine Pure.enter Try.func134 rfl Try.ntmps134 (Nat.le_of_ble_eq_true rfl) ?_
  refine V.seq ?_
  refine V.region ?_
  refine VL.r (.inl rfl) rfl (by decide) (yr_assign (u := .bool false) rfl rfl) ?_
  refine VL.nil ?_
  refine VE.then_wp ?_
  refine V.seq ?_
  refine V.region ?_
  refine VL.r (.inl rfl) rfl (by decide) (yr_move rfl rfl) ?_
  refine VL.r (.inl rfl) rfl (by decide) (yr_icmp rfl (.inr (.inr (.inr (.inr (.inr rfl))))) rfl rfl) ?_
  refine VL.r (.inl rfl) rfl (by decide) (yr_move rfl rfl) ?_
  refine VX.split 5 _ rfl (fun h1 => ?_) (fun h1 => ?_)
  · skip
    replace h1 := ic_geq h1
    refine VL.r (.inr ⟨_, _, _, rfl, rfl, rfl⟩) rfl (by decide) (yr_move rfl rfl) ?_
    refine VL.r (.inr ⟨_, _, _, rfl, rfl, rfl⟩) rfl (by decide) (yr_icmp rfl (.inr (.inr (.inr (.inl rfl)))) rfl rfl) ?_
    refine VL.r (.inl rfl) rfl (by decide) (yr_pick_t rfl rfl rfl) ?_
    refine VL.r (.inl rfl) rfl (by decide) (yr_assign rfl rfl) ?_
    refine VL.nil ?_
    refine VE.then_wp ?_
    refine V.ret ?_
    refine ret1 rfl rfl (fun w1 hw => ?_)
    refine ⟨congrArg Value.bool ?_, hw.below⟩
    rw [Bool.eq_iff_iff, decide_eq_true_eq]
    constructor
    · intro h; have := ic_leq h; omega
    · intro h; exact decide_eq_true (by omega)
  · skip
    replace h1 := ic_geq' h1
    refine VL.no rfl rfl rfl rfl rfl (by decide) ?_
    refine VL.no rfl rfl rfl rfl rfl (by decide) ?_
    refine VL.r (.inl rfl) rfl (by decide) (yr_pick_f (u := .bool false) rfl rfl rfl) ?_
    refine VL.r (.inl rfl) rfl (by decide) (yr_assign rfl rfl) ?_
    refine VL.nil ?_
    refine VE.then_wp ?_
    refine V.ret ?_
    refine ret1 rfl rfl (fun w1 hw => ?_)
    exact ⟨by rw [decide_eq_false (by omega)], hw.below⟩

theorem c_vd1 {w : World} {q ra a : Option Addr} {rc c : Nat} {u1 u2 : Value} {xs : List Nat} {f : Nat → Option Addr × Nat} {xss : List (List Nat)} (hX : Cl w ra (fl xs)) (hQ : Cl w q [.slice a xss.length c, u1, u2]) (hA : Cl w a (hd f xss)) (h0 : 0 < xss.length) (hn : xs.length ≤ 1050000) : Pure Try.prog 136 [.slice ra xs.length rc, .pointer (some (adr q 0))] w (.bool (!rowOk xs (xss.getD 0 []).length)) := by
  refine Pure.enter Try.func136 rfl Try.ntmps136 (Nat.le_of_ble_eq_true rfl) ?_
  refine V.seq ?_
  refine V.region ?_
  refine VL.r (.inl rfl) rfl (by decide) (yr_assign (u := .bool false) rfl rfl) ?_
  refine VL.nil ?_
  refine VE.then_wp ?_
  refine V.seq ?_
  refine V.region ?_
  refine VL.r (.inl rfl) rfl (by decide) (yr_move rfl rfl) ?_
  refine VL.r (.inl rfl) rfl (by decide) (yr_len rfl Try.underlying42 rfl) ?_
  refine VL.r (.inl rfl) rfl (by decide) (yr_fieldAddr rfl Try.underlying46 rfl rfl sz41_Design (by decide) rfl) ?_
  refine VL.q (.inl rfl) rfl (by decide) (yq_load rfl fb41_Design rfl (by first | exact Sees.root (by assumption) | exact Sees.own (by repeat (first | exact List.mem_cons_self | exact List.mem_append_left _ (by assumption) | apply List.mem_cons_of_mem | apply List.mem_append_right)) | exact Sees.root (hR _ (by omega)) | exact Sees.own (RowsIn.mem (by repeat (first | exact RowsIn.here | exact RowsIn.last | apply RowsIn.there | apply RowsIn.thereS)) _ (by omega)) | exact Sees.own (WRowsIn.mem (by repeat (first | exact WRowsIn.here | exact WRowsIn.last | apply WRowsIn.there | apply WRowsIn.thereS)) _ (by omega))) rfl) ?_
  refine VL.q (.inl rfl) rfl (by decide) (yq_idx (k := 0) rfl Try.underlying41 sz42_Design rfl rfl (by first | exact Sees.root (by assumption) | exact Sees.own (by repeat (first | exact List.mem_cons_self | exact List.mem_append_left _ (by assumption) | apply List.mem_cons_of_mem | apply List.mem_append_right)) | exact Sees.root (hR _ (by omega)) | exact Sees.own (RowsIn.mem (by repeat (first | exact RowsIn.here | exact RowsIn.last | apply RowsIn.there | apply RowsIn.thereS)) _ (by omega)) | exact Sees.own (WRowsIn.mem (by repeat (first | exact WRowsIn.here | exact WRowsIn.last | apply WRowsIn.there | apply WRowsIn.thereS)) _ (by omega))) (by first | rfl | omega | (push_cast; rfl) | (push_cast; omega) | exact tmod_nat _ _) (by first | exact fl_length _ | exact hd_length _ _ | simp) (by omega)) ?_
  refine VL.q (.inl rfl) rfl (by decide) (yq_loadH rfl fb42_Design rfl (by first | exact Sees.root (by assumption) | exact Sees.own (by repeat (first | exact List.mem_cons_self | exact List.mem_append_left _ (by assumption) | apply List.mem_cons_of_mem | apply List.mem_append_right)) | exact Sees.root (hR _ (by omega)) | exact Sees.own (RowsIn.mem (by repeat (first | exact RowsIn.here | exact RowsIn.last | apply RowsIn.there | apply RowsIn.thereS)) _ (by omega)) | exact Sees.own (WRowsIn.mem (by repeat (first | exact WRowsIn.here | exact WRowsIn.last | apply WRowsIn.there | apply WRowsIn.thereS)) _ (by omega))) (by omega)) ?_
  refine VL.r (.inl rfl) rfl (by decide) (yr_len rfl Try.underlying42 rfl) ?_
  refine VL.r (.inl rfl) rfl (by decide) (yr_icmp rfl (.inr (.inl rfl)) rfl rfl) ?_
  refine VL.r (.inl rfl) rfl (by decide) (yr_move rfl rfl) ?_
  refine VX.split 12 _ rfl (fun h1 => ?_) (fun h1 => ?_)
  · skip
    replace h1 := ic_neq h1
    refine VL.no rfl rfl rfl rfl rfl (by decide) ?_
    refine VL.no rfl rfl rfl rfl rfl (by decide) ?_
    refine VL.no rfl rfl rfl rfl rfl (by decide) ?_
    refine VL.r (.inl rfl) rfl (by decide) (yr_pick_t (u := .bool true) rfl rfl rfl) ?_
    refine VL.r (.inl rfl) rfl (by decide) (yr_assign rfl rfl) ?_
    refine VL.nil ?_
    refine VE.then_wp ?_
    refine V.ret ?_
    refine ret1 rfl rfl (fun w1 hw => ?_)
    exact ⟨by rw [rowOk, decide_eq_false (by omega), Bool.and_false]; rfl, hw.below⟩
  · skip
    replace h1 := ic_neq' h1
    refine VL.r (.inr ⟨_, _, _, rfl, rfl, rfl⟩) rfl (by decide) (yr_move rfl rfl) ?_
    refine VL.q (.inr ⟨_, _, _, rfl, rfl, rfl⟩) rfl (by decide) (yq_callf rfl known137_Design (.cons rfl .nil) (fun w hw => (c_areFinite (by first | exact Sees.root (by assumption) w hw | exact Sees.own (by repeat (first | exact List.mem_cons_self | exact List.mem_append_left _ (by assumption) | apply List.mem_cons_of_mem | apply List.mem_append_right)) w hw) (by omega)))) ?_
    refine VL.r (.inr ⟨_, _, _, rfl, rfl, rfl⟩) rfl (by decide) (yr_not rfl rfl) ?_
    refine VL.r (.inl rfl) rfl (by decide) (yr_pick_f rfl rfl rfl) ?_
    refine VL.r (.inl rfl) rfl (by decide) (yr_assign rfl rfl) ?_
    refine VL.nil ?_
    refine VE.then_wp ?_
    refine V.ret ?_
    refine ret1 rfl rfl (fun w1 hw => ?_)
    exact ⟨by rw [rowOk, decide_eq_true (by omega), Bool.and_true], hw.below⟩

theorem c_implValid {w : World} {a a1 a2 : Option Addr} {c c1 c2 : Nat} {f : Nat → Option Addr × Nat} {xss : List (List Nat)} {ws gs : List Nat} (hA : Cl w a (hd f xss)) (hR : Rws w f xss) (hW : Cl w a1 (fl ws)) (hG : Cl w a2 (fl gs)) (hsz : bulk xss + ws.length + gs.length ≤ 1050000) : Pure Try.prog 81 [.agg #[.slice a xss.length c, .slice a1 ws.length c1, .slice a2 gs.length c2]] w (.bool (validD xss ws gs)) := by
  refine Pure.enter Try.func81 rfl Try.ntmps81 (Nat.le_of_ble_eq_true rfl) ?_
  have hr : ∀ i, i < xss.length → (xss.getD i []).length ≤ 1050000 := fun i hi => by have := bulk_row hi; omega
  have hxl : xss.length ≤ bulk xss := by unfold bulk; omega
  refine V.seq ?_
  refine V.region ?_
  refine VL.new1 (.inl rfl) rfl (by decide) (yn_box rfl rfl (.inr ⟨rfl, rfl⟩)) ?_
  intro b1
  refine VL.r (.inl rfl) rfl (by decide) (yr_assign (u := .bool false) rfl rfl) ?_
  refine VL.nil ?_
  refine VE.then_wp ?_
  refine V.seq ?_
  refine V.seq ?_
  refine V.region ?_
  refine VL.r (.inl rfl) rfl (by decide) (yr_fieldAddr rfl Try.underlying46 rfl rfl sz41_Design (by decide) rfl) ?_
  refine VL.q (.inl rfl) rfl (by decide) (yq_load rfl fb41_Design rfl (by first | exact Sees.root (by assumption) | exact Sees.own (by repeat (first | exact List.mem_cons_self | exact List.mem_append_left _ (by assumption) | apply List.mem_cons_of_mem | apply List.mem_append_right)) | exact Sees.root (hR _ (by omega)) | exact Sees.own (RowsIn.mem (by repeat (first | exact RowsIn.here | exact RowsIn.last | apply RowsIn.there | apply RowsIn.thereS)) _ (by omega)) | exact Sees.own (WRowsIn.mem (by repeat (first | exact WRowsIn.here | exact WRowsIn.last | apply WRowsIn.there | apply WRowsIn.thereS)) _ (by omega))) rfl) ?_
  refine VL.r (.inl rfl) rfl (by decide) (yr_len rfl Try.underlying41 rfl) ?_
  refine VL.q (.inl rfl) rfl (by decide) (yq_callf rfl known133_Design (.cons rfl .nil) (fun w hw => c_isRows _)) ?_
  refine VL.r (.inl rfl) rfl (by decide) (yr_not rfl rfl) ?_
  refine VL.r (.inl rfl) rfl (by decide) (yr_move rfl rfl) ?_
  refine VX.split 8 _ rfl (fun h1 => ?_) (fun h1 => ?_)
  · skip
    replace h1 := bnot_t h1
    replace h1 := of_decide_eq_false h1
    refine VL.no rfl rfl rfl rfl rfl (by decide) ?_
    refine VL.no rfl rfl rfl rfl rfl (by decide) ?_
    refine VL.no rfl rfl rfl rfl rfl (by decide) ?_
    refine VL.no rfl rfl rfl rfl rfl (by decide) ?_
    refine VL.no rfl rfl rfl rfl rfl (by decide) ?_
    refine VL.no rfl rfl rfl rfl rfl (by decide) ?_
    refine VL.no rfl rfl rfl rfl rfl (by decide) ?_
    refine VL.r (.inl rfl) rfl (by decide) (yr_pick_t (u := .bool true) rfl rfl rfl) ?_
    refine VL.r (.inl rfl) rfl (by decide) (yr_move rfl rfl) ?_
    refine VL.no rfl rfl rfl rfl rfl (by decide) ?_
    refine VL.no rfl rfl rfl rfl rfl (by decide) ?_
    refine VL.no rfl rfl rfl rfl rfl (by decide) ?_
    refine VL.no rfl rfl rfl rfl rfl (by decide) ?_
    refine VL.no rfl rfl rfl rfl rfl (by decide) ?_
    refine VL.no rfl rfl rfl rfl rfl (by decide) ?_
    refine VL.no rfl rfl rfl rfl rfl (by decide) ?_
    refine VL.r (.inl rfl) rfl (by decide) (yr_pick_t (u := .bool true) rfl rfl rfl) ?_
    refine VL.r (.inl rfl) rfl (by decide) (yr_move rfl rfl) ?_
    refine VL.no rfl rfl rfl rfl rfl (by decide) ?_
    refine VL.no rfl rfl rfl rfl rfl (by decide) ?_
    refine VL.no rfl rfl rfl rfl rfl (by decide) ?_
    refine VL.no rfl rfl rfl rfl rfl (by decide) ?_
    refine VL.no rfl rfl rfl rfl rfl (by decide) ?_
    refine VL.no rfl rfl rfl rfl rfl (by decide) ?_
    refine VL.no rfl rfl rfl rfl rfl (by decide) ?_
    refine VL.r (.inl rfl) rfl (by decide) (yr_pick_t (u := .bool true) rfl rfl rfl) ?_
    refine VL.nil ?_
    refine VE.then_wp ?_
    refine V.condT rfl ?_
    refine V.seq ?_
    refine V.region ?_
    refine VL.r (.inl rfl) rfl (by decide) (yr_assign (u := .bool false) rfl rfl) ?_
    refine VL.nil ?_
    refine VE.then_wp ?_
    refine V.ret ?_
    refine VE.then_ret ?_
    refine ret1 rfl rfl (fun w1 hw => ?_)
    refine ⟨congrArg Value.bool (valid_no fun hv => ?_).symm, hw.below⟩
    obtain ⟨v1, v2, v3, v4, v5, v6, v7, v8⟩ := hv
    omega
  · skip
    replace h1 := bnot_f h1
    replace h1 := of_decide_eq_true h1
    refine VL.r (.inr ⟨_, _, _, rfl, rfl, rfl⟩) rfl (by decide) (yr_fieldAddr rfl Try.underlying46 rfl rfl sz42_Design (by decide) rfl) ?_
    refine VL.q (.inr ⟨_, _, _, rfl, rfl, rfl⟩) rfl (by decide) (yq_load rfl fb42_Design rfl (by first | exact Sees.root (by assumption) | exact Sees.own (by repeat (first | exact List.mem_cons_self | exact List.mem_append_left _ (by assumption) | apply List.mem_cons_of_mem | apply List.mem_append_right)) | exact Sees.root (hR _ (by omega)) | exact Sees.own (RowsIn.mem (by repeat (first | exact RowsIn.here | exact RowsIn.last | apply RowsIn.there | apply RowsIn.thereS)) _ (by omega)) | exact Sees.own (WRowsIn.mem (by repeat (first | exact WRowsIn.here | exact WRowsIn.last | apply WRowsIn.there | apply WRowsIn.thereS)) _ (by omega))) rfl) ?_
    refine VL.r (.inr ⟨_, _, _, rfl, rfl, rfl⟩) rfl (by decide) (yr_len rfl Try.underlying42 rfl) ?_
    refine VL.r (.inr ⟨_, _, _, rfl, rfl, rfl⟩) rfl (by decide) (yr_fieldAddr rfl Try.underlying46 rfl rfl sz41_Design (by decide) rfl) ?_
    refine VL.q (.inr ⟨_, _, _, rfl, rfl, rfl⟩) rfl (by decide) (yq_load rfl fb41_Design rfl (by first | exact Sees.root (by assumption) | exact Sees.own (by repeat (first | exact List.mem_cons_self | exact List.mem_append_left _ (by assumption) | apply List.mem_cons_of_mem | apply List.mem_append_right)) | exact Sees.root (hR _ (by omega)) | exact Sees.own (RowsIn.mem (by repeat (first | exact RowsIn.here | exact RowsIn.last | apply RowsIn.there | apply RowsIn.thereS)) _ (by omega)) | exact Sees.own (WRowsIn.mem (by repeat (first | exact WRowsIn.here | exact WRowsIn.last | apply WRowsIn.there | apply WRowsIn.thereS)) _ (by omega))) rfl) ?_
    refine VL.r (.inr ⟨_, _, _, rfl, rfl, rfl⟩) rfl (by decide) (yr_len rfl Try.underlying41 rfl) ?_
    refine VL.r (.inr ⟨_, _, _, rfl, rfl, rfl⟩) rfl (by decide) (yr_icmp rfl (.inr (.inl rfl)) rfl rfl) ?_
    refine VL.r (.inl rfl) rfl (by decide) (yr_pick_f rfl rfl rfl) ?_
    refine VL.r (.inl rfl) rfl (by decide) (yr_move rfl rfl) ?_
    refine VX.split 17 _ rfl (fun h3 => ?_) (fun h3 => ?_)
    · skip
      replace h3 := ic_neq h3
      refine VL.no rfl rfl rfl rfl rfl (by decide) ?_
      refine VL.no rfl rfl rfl rfl rfl (by decide) ?_
      refine VL.no rfl rfl rfl rfl rfl (by decide) ?_
      refine VL.no rfl rfl rfl rfl rfl (by decide) ?_
      refine VL.no rfl rfl rfl rfl rfl (by decide) ?_
      refine VL.no rfl rfl rfl rfl rfl (by decide) ?_
      refine VL.no rfl rfl rfl rfl rfl (by decide) ?_
      refine VL.r (.inl rfl) rfl (by decide) (yr_pick_t (u := .bool true) rfl rfl rfl) ?_
      refine VL.r (.inl rfl) rfl (by decide) (yr_move rfl rfl) ?_
      refine VL.no rfl rfl rfl rfl rfl (by decide) ?_
      refine VL.no rfl rfl rfl rfl rfl (by decide) ?_
      refine VL.no rfl rfl rfl rfl rfl (by decide) ?_
      refine VL.no rfl rfl rfl rfl rfl (by decide) ?_
      refine VL.no rfl rfl rfl rfl rfl (by decide) ?_
      refine VL.no rfl rfl rfl rfl rfl (by decide) ?_
      refine VL.no rfl rfl rfl rfl rfl (by decide) ?_
      refine VL.r (.inl rfl) rfl (by decide) (yr_pick_t (u := .bool true) rfl rfl rfl) ?_
      refine VL.nil ?_
      refine VE.then_wp ?_
      refine V.condT rfl ?_
      refine V.seq ?_
      refine V.region ?_
      refine VL.r (.inl rfl) rfl (by decide) (yr_assign (u := .bool false) rfl rfl) ?_
      refine VL.nil ?_
      refine VE.then_wp ?_
      refine V.ret ?_
      refine VE.then_ret ?_
      refine ret1 rfl rfl (fun w1 hw => ?_)
      refine ⟨congrArg Value.bool (valid_no fun hv => ?_).symm, hw.below⟩
      obtain ⟨v1, v2, v3, v4, v5, v6, v7, v8⟩ := hv
      omega
    · skip
      replace h3 := ic_neq' h3
      refine VL.r (.inr ⟨_, _, _, rfl, rfl, rfl⟩) rfl (by decide) (yr_fieldAddr rfl Try.underlying46 rfl rfl sz42_Design (by decide) rfl) ?_
      refine VL.q (.inr ⟨_, _, _, rfl, rfl, rfl⟩) rfl (by decide) (yq_load rfl fb42_Design rfl (by first | exact Sees.root (by assumption) | exact Sees.own (by repeat (first | exact List.mem_cons_self | exact List.mem_append_left _ (by assumption) | apply List.mem_cons_of_mem | apply List.mem_append_right)) | exact Sees.root (hR _ (by omega)) | exact Sees.own (RowsIn.mem (by repeat (first | exact RowsIn.here | exact RowsIn.last | apply RowsIn.there | apply RowsIn.thereS)) _ (by omega)) | exact Sees.own (WRowsIn.mem (by repeat (first | exact WRowsIn.here | exact WRowsIn.last | apply WRowsIn.there | apply WRowsIn.thereS)) _ (by omega))) rfl) ?_
      refine VL.r (.inr ⟨_, _, _, rfl, rfl, rfl⟩) rfl (by decide) (yr_len rfl Try.underlying42 rfl) ?_
      refine VL.r (.inr ⟨_, _, _, rfl, rfl, rfl⟩) rfl (by decide) (yr_fieldAddr rfl Try.underlying46 rfl rfl sz41_Design (by decide) rfl) ?_
      refine VL.q (.inr ⟨_, _, _, rfl, rfl, rfl⟩) rfl (by decide) (yq_load rfl fb41_Design rfl (by first | exact Sees.root (by assumption) | exact Sees.own (by repeat (first | exact List.mem_cons_self | exact List.mem_append_left _ (by assumption) | apply List.mem_cons_of_mem | apply List.mem_append_right)) | exact Sees.root (hR _ (by omega)) | exact Sees.own (RowsIn.mem (by repeat (first | exact RowsIn.here | exact RowsIn.last | apply RowsIn.there | apply RowsIn.thereS)) _ (by omega)) | exact Sees.own (WRowsIn.mem (by repeat (first | exact WRowsIn.here | exact WRowsIn.last | apply WRowsIn.there | apply WRowsIn.thereS)) _ (by omega))) rfl) ?_
      refine VL.r (.inr ⟨_, _, _, rfl, rfl, rfl⟩) rfl (by decide) (yr_len rfl Try.underlying41 rfl) ?_
      refine VL.r (.inr ⟨_, _, _, rfl, rfl, rfl⟩) rfl (by decide) (yr_icmp rfl (.inr (.inl rfl)) rfl rfl) ?_
      refine VL.r (.inl rfl) rfl (by decide) (yr_pick_f rfl rfl rfl) ?_
      refine VL.r (.inl rfl) rfl (by decide) (yr_move rfl rfl) ?_
      refine VX.split 26 _ rfl (fun h5 => ?_) (fun h5 => ?_)
      · skip
        replace h5 := ic_neq h5
        refine VL.no rfl rfl rfl rfl rfl (by decide) ?_
        refine VL.no rfl rfl rfl rfl rfl (by decide) ?_
        refine VL.no rfl rfl rfl rfl rfl (by decide) ?_
        refine VL.no rfl rfl rfl rfl rfl (by decide) ?_
        refine VL.no rfl rfl rfl rfl rfl (by decide) ?_
        refine VL.no rfl rfl rfl rfl rfl (by decide) ?_
        refine VL.no rfl rfl rfl rfl rfl (by decide) ?_
        refine VL.r (.inl rfl) rfl (by decide) (yr_pick_t (u := .bool true) rfl rfl rfl) ?_
        refine VL.nil ?_
        refine VE.then_wp ?_
        refine V.condT rfl ?_
        refine V.seq ?_
        refine V.region ?_
        refine VL.r (.inl rfl) rfl (by decide) (yr_assign (u := .bool false) rfl rfl) ?_
        refine VL.nil ?_
        refine VE.then_wp ?_
        refine V.ret ?_
        refine VE.then_ret ?_
        refine ret1 rfl rfl (fun w1 hw => ?_)
        refine ⟨congrArg Value.bool (valid_no fun hv => ?_).symm, hw.below⟩
        obtain ⟨v1, v2, v3, v4, v5, v6, v7, v8⟩ := hv
        omega
      · skip
        replace h5 := ic_neq' h5
        refine VL.r (.inr ⟨_, _, _, rfl, rfl, rfl⟩) rfl (by decide) (yr_fieldAddr rfl Try.underlying46 rfl rfl sz41_Design (by decide) rfl) ?_
        refine VL.q (.inr ⟨_, _, _, rfl, rfl, rfl⟩) rfl (by decide) (yq_load rfl fb41_Design rfl (by first | exact Sees.root (by assumption) | exact Sees.own (by repeat (first | exact List.mem_cons_self | exact List.mem_append_left _ (by assumption) | apply List.mem_cons_of_mem | apply List.mem_append_right)) | exact Sees.root (hR _ (by omega)) | exact Sees.own (RowsIn.mem (by repeat (first | exact RowsIn.here | exact RowsIn.last | apply RowsIn.there | apply RowsIn.thereS)) _ (by omega)) | exact Sees.own (WRowsIn.mem (by repeat (first | exact WRowsIn.here | exact WRowsIn.last | apply WRowsIn.there | apply WRowsIn.thereS)) _ (by omega))) rfl) ?_
        refine VL.q (.inr ⟨_, _, _, rfl, rfl, rfl⟩) rfl (by decide) (yq_idx (k := 0) rfl Try.underlying41 sz42_Design rfl rfl (by first | exact Sees.root (by assumption) | exact Sees.own (by repeat (first | exact List.mem_cons_self | exact List.mem_append_left _ (by assumption) | apply List.mem_cons_of_mem | apply List.mem_append_right)) | exact Sees.root (hR _ (by omega)) | exact Sees.own (RowsIn.mem (by repeat (first | exact RowsIn.here | exact RowsIn.last | apply RowsIn.there | apply RowsIn.thereS)) _ (by omega)) | exact Sees.own (WRowsIn.mem (by repeat (first | exact WRowsIn.here | exact WRowsIn.last | apply WRowsIn.there | apply WRowsIn.thereS)) _ (by omega))) (by first | rfl | omega | (push_cast; rfl) | (push_cast; omega) | exact tmod_nat _ _) (by first | exact fl_length _ | exact hd_length _ _ | simp) (by omega)) ?_
        refine VL.q (.inr ⟨_, _, _, rfl, rfl, rfl⟩) rfl (by decide) (yq_loadH rfl fb42_Design rfl (by first | exact Sees.root (by assumption) | exact Sees.own (by repeat (first | exact List.mem_cons_self | exact List.mem_append_left _ (by assumption) | apply List.mem_cons_of_mem | apply List.mem_append_right)) | exact Sees.root (hR _ (by omega)) | exact Sees.own (RowsIn.mem (by repeat (first | exact RowsIn.here | exact RowsIn.last | apply RowsIn.there | apply RowsIn.thereS)) _ (by omega)) | exact Sees.own (WRowsIn.mem (by repeat (first | exact WRowsIn.here | exact WRowsIn.last | apply WRowsIn.there | apply WRowsIn.thereS)) _ (by omega))) (by omega)) ?_
        refine VL.r (.inr ⟨_, _, _, rfl, rfl, rfl⟩) rfl (by decide) (yr_len rfl Try.underlying42 rfl) ?_
        refine VL.q (.inr ⟨_, _, _, rfl, rfl, rfl⟩) rfl (by decide) (yq_callf rfl known134_Design (.cons rfl .nil) (fun w hw => c_isUnknowns _)) ?_
        refine VL.r (.inr ⟨_, _, _, rfl, rfl, rfl⟩) rfl (by decide) (yr_not rfl rfl) ?_
        refine VL.r (.inl rfl) rfl (by decide) (yr_pick_f rfl rfl rfl) ?_
        refine VL.nil ?_
        refine VE.then_wp ?_
        refine V.cond rfl (fun h7 => ?_) (fun h7 => ?_)
        · skip
          replace h7 := bnot_t h7
          replace h7 := of_decide_eq_false h7
          refine V.seq ?_
          refine V.region ?_
          refine VL.r (.inl rfl) rfl (by decide) (yr_assign (u := .bool false) rfl rfl) ?_
          refine VL.nil ?_
          refine VE.then_wp ?_
          refine V.ret ?_
          refine VE.then_ret ?_
          refine ret1 rfl rfl (fun w1 hw => ?_)
          refine ⟨congrArg Value.bool (valid_no fun hv => ?_).symm, hw.below⟩
          obtain ⟨v1, v2, v3, v4, v5, v6, v7, v8⟩ := hv
          omega
        · skip
          replace h7 := bnot_f h7
          replace h7 := of_decide_eq_true h7
          refine V.skip ?_
          refine VE.then_wp ?_
          refine V.seq ?_
          refine V.seq ?_
          refine V.region ?_
          refine VL.r (.inl rfl) rfl (by decide) (yr_fieldAddr rfl Try.underlying46 rfl rfl sz41_Design (by decide) rfl) ?_
          refine VL.q (.inl rfl) rfl (by decide) (yq_load rfl fb41_Design rfl (by first | exact Sees.root (by assumption) | exact Sees.own (by repeat (first | exact List.mem_cons_self | exact List.mem_append_left _ (by assumption) | apply List.mem_cons_of_mem | apply List.mem_append_right)) | exact Sees.root (hR _ (by omega)) | exact Sees.own (RowsIn.mem (by repeat (first | exact RowsIn.here | exact RowsIn.last | apply RowsIn.there | apply RowsIn.thereS)) _ (by omega)) | exact Sees.own (WRowsIn.mem (by repeat (first | exact WRowsIn.here | exact WRowsIn.last | apply WRowsIn.there | apply WRowsIn.thereS)) _ (by omega))) rfl) ?_
          refine VL.r (.inl rfl) rfl (by decide) (yr_func1 rfl rfl) ?_
          refine VL.q (.inl rfl) rfl (by decide) (yq_callf rfl known135_Design (.cons rfl (.cons rfl .nil)) (fun w hw => (c_hasR (p := fun k => !rowOk (xss.getD k []) (xss.getD 0 []).length) (by first | exact Sees.root (by assumption) w hw | exact Sees.own (by repeat (first | exact List.mem_cons_self | exact List.mem_append_left _ (by assumption) | apply List.mem_cons_of_mem | apply List.mem_append_right)) w hw) known136_Design (fun w1 hb k hk => c_vd1 ((hR.root hw k hk).below hb) (Cl.below (Sees.own (by repeat (first | exact List.mem_cons_self | apply List.mem_cons_of_mem | apply List.mem_append_right)) w hw) hb) ((Sees.root hA w hw).below hb) (by omega) (hr k hk)) (by omega)))) ?_
          refine VL.nil ?_
          refine VE.then_wp ?_
          refine V.cond rfl (fun h8 => ?_) (fun h8 => ?_)
          · skip
            obtain ⟨k, hk, hp⟩ := idxI_t h8
            replace hp := bnot_t hp
            refine V.seq ?_
            refine V.region ?_
            refine VL.r (.inl rfl) rfl (by decide) (yr_assign (u := .bool false) rfl rfl) ?_
            refine VL.nil ?_
            refine VE.then_wp ?_
            refine V.ret ?_
            refine VE.then_ret ?_
            refine ret1 rfl rfl (fun w1 hw => ?_)
            refine ⟨congrArg Value.bool (valid_no fun hv => ?_).symm, hw.below⟩
            obtain ⟨v1, v2, v3, v4, v5, v6, v7, v8⟩ := hv
            exact rowOk_f hp ⟨(v6 k hk).1, (v6 k hk).2.1⟩
          · skip
            replace h8 := fun k hk => bnot_f (idxI_f h8 k hk)
            refine V.skip ?_
            refine VE.then_wp ?_
            refine V.seq ?_
            refine V.region ?_
            refine VL.r (.inl rfl) rfl (by decide) (yr_fieldAddr rfl Try.underlying46 rfl rfl sz42_Design (by decide) rfl) ?_
            refine VL.q (.inl rfl) rfl (by decide) (yq_load rfl fb42_Design rfl (by first | exact Sees.root (by assumption) | exact Sees.own (by repeat (first | exact List.mem_cons_self | exact List.mem_append_left _ (by assumption) | apply List.mem_cons_of_mem | apply List.mem_append_right)) | exact Sees.root (hR _ (by omega)) | exact Sees.own (RowsIn.mem (by repeat (first | exact RowsIn.here | exact RowsIn.last | apply RowsIn.there | apply RowsIn.thereS)) _ (by omega)) | exact Sees.own (WRowsIn.mem (by repeat (first | exact WRowsIn.here | exact WRowsIn.last | apply WRowsIn.there | apply WRowsIn.thereS)) _ (by omega))) rfl) ?_
            refine VL.q (.inl rfl) rfl (by decide) (yq_callf rfl known137_Design (.cons rfl .nil) (fun w hw => (c_areFinite (by first | exact Sees.root (by assumption) w hw | exact Sees.own (by repeat (first | exact List.mem_cons_self | exact List.mem_append_left _ (by assumption) | apply List.mem_cons_of_mem | apply List.mem_append_right)) w hw) (by omega)))) ?_
            refine VL.r (.inl rfl) rfl (by decide) (yr_move rfl rfl) ?_
            refine VX.split 42 _ rfl (fun h9 => ?_) (fun h9 => ?_)
            · skip
              refine VL.r (.inr ⟨_, _, _, rfl, rfl, rfl⟩) rfl (by decide) (yr_fieldAddr rfl Try.underlying46 rfl rfl sz42_Design (by decide) rfl) ?_
              refine VL.q (.inr ⟨_, _, _, rfl, rfl, rfl⟩) rfl (by decide) (yq_load rfl fb42_Design rfl (by first | exact Sees.root (by assumption) | exact Sees.own (by repeat (first | exact List.mem_cons_self | exact List.mem_append_left _ (by assumption) | apply List.mem_cons_of_mem | apply List.mem_append_right)) | exact Sees.root (hR _ (by omega)) | exact Sees.own (RowsIn.mem (by repeat (first | exact RowsIn.here | exact RowsIn.last | apply RowsIn.there | apply RowsIn.thereS)) _ (by omega)) | exact Sees.own (WRowsIn.mem (by repeat (first | exact WRowsIn.here | exact WRowsIn.last | apply WRowsIn.there | apply WRowsIn.thereS)) _ (by omega))) rfl) ?_
              refine VL.q (.inr ⟨_, _, _, rfl, rfl, rfl⟩) rfl (by decide) (yq_callf rfl known138_Design (.cons rfl .nil) (fun w hw => (c_areNotNeg (by first | exact Sees.root (by assumption) w hw | exact Sees.own (by repeat (first | exact List.mem_cons_self | exact List.mem_append_left _ (by assumption) | apply List.mem_cons_of_mem | apply List.mem_append_right)) w hw) (by omega)))) ?_
              refine VL.r (.inl rfl) rfl (by decide) (yr_pick_t rfl rfl rfl) ?_
              refine VL.r (.inl rfl) rfl (by decide) (yr_assign rfl rfl) ?_
              refine VL.nil ?_
              refine VE.then_wp ?_
              refine V.ret ?_
              refine ret1 rfl rfl (fun w1 hw => ?_)
              refine ⟨congrArg Value.bool ?_, hw.below⟩
              have hrows := h8
              rw [Bool.eq_iff_iff]
              constructor
              · intro h
                have hl := all_getD.1 h
                exact valid_yes ⟨by omega, by omega, by omega, by omega, by assumption, fun i hi => ⟨(rowOk_t (hrows i hi)).1, (rowOk_t (hrows i hi)).2, hl i (by omega)⟩, by omega, by omega⟩
              · intro h
                obtain ⟨v1, v2, v3, v4, v5, v6, v7, v8⟩ := valid_is h
                exact all_getD.2 fun i hi => (v6 i (by omega)).2.2
            · skip
              refine VL.no rfl rfl rfl rfl rfl (by decide) ?_
              refine VL.no rfl rfl rfl rfl rfl (by decide) ?_
              refine VL.no rfl rfl rfl rfl rfl (by decide) ?_
              refine VL.r (.inl rfl) rfl (by decide) (yr_pick_f (u := .bool false) rfl rfl rfl) ?_
              refine VL.r (.inl rfl) rfl (by decide) (yr_assign rfl rfl) ?_
              refine VL.nil ?_
              refine VE.then_wp ?_
              refine V.ret ?_
              refine ret1 rfl rfl (fun w1 hw => ?_)
              refine ⟨congrArg Value.bool (valid_no fun hv => ?_).symm, hw.below⟩
              obtain ⟨v1, v2, v3, v4, v5, v6, v7, v8⟩ := hv
              simp_all

end Go.Proofs.Ytfignpiphihgfaa


namespace Go.Proofs.Ytfignpiphihgfaa
open Go.RowKit
set_option linter.unusedVariables false
set_option linter.unusedSimpArgs false
set_option maxRecDepth 20000

end Go.Proofs.Ytfignpiphihgfaa


namespace Go.Proofs.Ytfignpiphihgfaa
open Go.RowKit
set_option linter.unusedVariables false
set_option linter.unusedSimpArgs false
set_option maxRecDepth 20000

theorem sz42_Own : (Try.prog.info? 42).map (·.size) = some 1 := by kernel_rfl
theorem fb42_Own : flatB Try.prog 42 = true := by kernel_rfl
theorem sz41_Own : (Try.prog.info? 41).map (·.size) = some 1 := by kernel_rfl
theorem fb41_Own : flatB Try.prog 41 = true := by kernel_rfl
theorem zero46_Own : (Try.prog.info? 46).bind (·.zero) = some (Value.agg #[Value.slice none 0 0, Value.slice none 0 0, Value.slice none 0 0]) := by kernel_rfl
theorem mixed_Own : Try.prog.follows .mixedOrders = true := by kernel_rfl
theorem elt23_Own : Elt Try.prog 23 [Value.float .f32 0] 4 := Elt.mk' (by kernel_rfl) (by decide)
theorem lay46_Own : Lay Try.prog 46 [Value.slice none 0 0, Value.slice none 0 0, Value.slice none 0 0] [(0, 1), (1, 1), (2, 1)] := Lay.mk' (by kernel_rfl) (by kernel_rfl)
theorem sz46_Own : (Try.prog.info? 46).map (·.size) = some 3 := by kernel_rfl
theorem elt42_Own : Elt Try.prog 42 [Value.slice none 0 0] 24 := Elt.mk' (by kernel_rfl) (by decide)
theorem known139_Own : Known Try.prog 139 := Known.mk' Try.func139 (by kernel_rfl)
theorem known81_Own : Known Try.prog 81 := Known.mk' Try.func81 (by kernel_rfl)
theorem known82_Own : Known Try.prog 82 := Known.mk' Try.func82 (by kernel_rfl)
theorem known83_Own : Known Try.prog 83 := Known.mk' Try.func83 (by kernel_rfl)
theorem c_copyDesign {w : World} {a a1 a2 : Option Addr} {c c1 c2 : Nat} {f : Nat → Option Addr × Nat} {xss : List (List Nat)} {ws gs : List Nat} (hA : Cl w a (hd f xss)) (hR : Rws w f xss) (hW : Cl w a1 (fl ws)) (hG : Cl w a2 (fl gs)) (hsz : bulk xss + ws.length + gs.length ≤ 1050000) : New Try.prog 82 [.agg #[.slice a xss.length c, .slice a1 ws.length c1, .slice a2 gs.length c2]] w (fun (p : ((Option Addr × Nat) × (Nat → Option Addr × Nat)) × (Option Addr × Nat) × (Option Addr × Nat)) => .agg #[.slice p.1.1.1 (xss).length p.1.1.2, .slice p.2.1.1 (ws).length p.2.1.2, .slice p.2.2.1 (gs).length p.2.2.2]) (fun p => ⟨p.2.2.1, fl (gs), p.2.2.2 * 1, 23⟩ :: ⟨p.2.1.1, fl (ws), p.2.1.2 * 1, 23⟩ :: ⟨p.1.1.1, hd p.1.2 (xss), p.1.1.2 * 1, 42⟩ :: rents 23 p.1.2 (xss)) := by
  refine New.enter Try.func82 rfl Try.ntmps82 (Nat.le_of_ble_eq_true rfl) ?_
  have hr : ∀ i, i < xss.length → (xss.getD i []).length ≤ 1050000 := fun i hi => by have := bulk_row hi; omega
  have hxl : xss.length ≤ bulk xss := by unfold bulk; omega
  refine V.seq ?_
  refine V.region ?_
  refine VL.new1 (.inl rfl) rfl (by decide) (yn_box rfl rfl (.inr ⟨rfl, rfl⟩)) ?_
  intro b1
  refine VL.new1 (.inl rfl) rfl (by decide) (yn_alloc rfl zero46_Own rfl) ?_
  intro b2
  refine VL.nil ?_
  refine VE.then_wp ?_
  refine V.seq ?_
  refine Dr.V.drawR [(0, 5), (1, 5), (3, 5), (4, 5), (2, 1), (5, 1), (6, 5), (7, 2), (8, 3)] [(7, ((fun b => .pointer (some (adr (some ⟨b, 0, none⟩) 0))), (fun b => ⟨some ⟨b, 0, none⟩, [Value.slice none 0 0, Value.slice none 0 0, Value.slice none 0 0], 3, 46⟩)))] [] _ mixed_Own (by kernel_rfl) (fun w hw => hw) ?_
  refine Dr.SW.r rfl (.inl rfl) rfl (by decide) (yr_fieldAddr rfl Try.underlying46 rfl rfl sz42_Own (by decide) rfl) ?_
  refine Dr.SW.p rfl (.inl rfl) rfl (by decide) (yq_load rfl fb42_Own rfl (by first | exact Sees.root (by assumption) | exact Sees.own (by (try simp only [List.append_assoc, List.cons_append, List.nil_append]); repeat (first | exact List.mem_cons_self | exact List.mem_append_left _ (by assumption) | apply List.mem_cons_of_mem | apply List.mem_append_right)) | exact Sees.root (hR _ (by omega)) | exact Sees.own (RowsIn.mem (by (try simp only [List.append_assoc, List.cons_append, List.nil_append]); repeat (first | exact RowsIn.here | exact RowsIn.last | apply RowsIn.there | apply RowsIn.thereS)) _ (by omega)) | exact Sees.own (WRowsIn.mem (by (try simp only [List.append_assoc, List.cons_append, List.nil_append]); repeat (first | exact WRowsIn.here | exact WRowsIn.last | apply WRowsIn.there | apply WRowsIn.thereS)) _ (by omega))) rfl) ?_
  refine Dr.SW.r rfl (.inl rfl) rfl (by decide) (yr_fieldAddr rfl Try.underlying46 rfl rfl sz42_Own (by decide) rfl) ?_
  refine Dr.SW.p rfl (.inl rfl) rfl (by decide) (yq_load rfl fb42_Own rfl (by first | exact Sees.root (by assumption) | exact Sees.own (by (try simp only [List.append_assoc, List.cons_append, List.nil_append]); repeat (first | exact List.mem_cons_self | exact List.mem_append_left _ (by assumption) | apply List.mem_cons_of_mem | apply List.mem_append_right)) | exact Sees.root (hR _ (by omega)) | exact Sees.own (RowsIn.mem (by (try simp only [List.append_assoc, List.cons_append, List.nil_append]); repeat (first | exact RowsIn.here | exact RowsIn.last | apply RowsIn.there | apply RowsIn.thereS)) _ (by omega)) | exact Sees.own (WRowsIn.mem (by (try simp only [List.append_assoc, List.cons_append, List.nil_append]); repeat (first | exact WRowsIn.here | exact WRowsIn.last | apply WRowsIn.there | apply WRowsIn.thereS)) _ (by omega))) rfl) ?_
  refine Dr.SW.new1 rfl (.inl rfl) rfl (by decide) (yn_callf rfl known139_Own (.cons rfl .nil) (fun w hw => (c_cloneF (by first | exact Sees.root (by assumption) w hw | exact Sees.own (by (try simp only [List.append_assoc, List.cons_append, List.nil_append]); repeat (first | exact List.mem_cons_self | exact List.mem_append_left _ (by assumption) | apply List.mem_cons_of_mem | apply List.mem_append_right)) w hw) (by omega)))) ?_
  rintro ⟨a8, c8⟩
  refine Dr.SW.new1 rfl (.inl rfl) rfl (by decide) (yn_callf rfl known139_Own (.cons rfl .nil) (fun w hw => (c_cloneF (by first | exact Sees.root (by assumption) w hw | exact Sees.own (by (try simp only [List.append_assoc, List.cons_append, List.nil_append]); repeat (first | exact List.mem_cons_self | exact List.mem_append_left _ (by assumption) | apply List.mem_cons_of_mem | apply List.mem_append_right)) w hw) (by omega)))) ?_
  rintro ⟨a11, c11⟩
  refine Dr.SW.r rfl (.inl rfl) rfl (by decide) (yr_build rfl lay46_Own rfl (.cons rfl (.cons rfl .nil)) (by first | (simp; done) | (simp [vv]; done) | (simp [cn, cn1, cn0]; done)) rfl) ?_
  refine Dr.SW.a rfl rfl rfl (by decide) rfl (fun w0 => (yn_alloc rfl zero46_Own rfl)) ?_
  intro b3
  refine Dr.SW.s rfl (.inl rfl) rfl (yc_store rfl sz46_Own rfl rfl (Dr.UpdF.app (by repeat (first | exact UpdF.here | apply UpdF.there | apply UpdF.thereS))) (.inr ⟨rfl, rfl⟩) rfl (by first | exact Nat.le_of_ble_eq_true rfl | simp) (by decide) rfl) ?_
  rintro ⟨⟩
  refine Dr.SW.done ?_
  refine Dr.eqO (by simp only [List.append_nil, List.append_assoc, List.cons_append, List.nil_append] <;> rfl) ?_
  refine VE.then_wp ?_
  refine V.seq ?_
  refine V.seq ?_
  refine V.region ?_
  refine VL.r (.inl rfl) rfl (by decide) (yr_fieldAddr rfl Try.underlying46 rfl rfl sz41_Own (by decide) rfl) ?_
  refine VL.q (.inl rfl) rfl (by decide) (yq_load rfl fb41_Own rfl (by first | exact Sees.root (by assumption) | exact Sees.own (by repeat (first | exact List.mem_cons_self | exact List.mem_append_left _ (by assumption) | apply List.mem_cons_of_mem | apply List.mem_append_right)) | exact Sees.root (hR _ (by omega)) | exact Sees.own (RowsIn.mem (by repeat (first | exact RowsIn.here | exact RowsIn.last | apply RowsIn.there | apply RowsIn.thereS)) _ (by omega)) | exact Sees.own (WRowsIn.mem (by repeat (first | exact WRowsIn.here | exact WRowsIn.last | apply WRowsIn.there | apply WRowsIn.thereS)) _ (by omega))) rfl) ?_
  refine VL.r (.inl rfl) rfl (by decide) (yr_len rfl Try.underlying41 rfl) ?_
  refine VL.r (.inl rfl) rfl (by decide) (yr_move (u := .int .i64 0) rfl rfl) ?_
  refine VL.nil ?_
  refine VE.then_wp ?_
  refine V.block ?_
  refine V.loopc (G := Nat × (Nat → Option Addr × Nat) × (Option Addr) × Nat) [(2, _), (3, _), (14, _), (15, _)] (fun ⟨i, g, ar, cr⟩ => i ≤ xss.length) (fun ⟨i, g, ar, cr⟩ => (⟨ar, hd g (xss.take i), cr * 1, 42⟩ :: ⟨some ⟨b3, 0, none⟩, [.slice ar i cr, .slice a8 ws.length c8, .slice a11 gs.length c11], 3, 46⟩ :: ⟨a11, fl gs, c11 * 1, 23⟩ :: ⟨a8, fl ws, c8 * 1, 23⟩ :: ⟨some ⟨b2, 0, none⟩, [.slice none 0 0, .slice none 0 0, .slice none 0 0], 3, 46⟩ :: ⟨some ⟨b1, 0, none⟩, [.slice a xss.length c, .slice a1 ws.length c1, .slice a2 gs.length c2], 3, 46⟩ :: rents 23 g (xss.take i))) (fun ⟨i, g, ar, cr⟩ => [(16, .int .i64 (i : Int))]) (fun ⟨i, g, ar, cr⟩ => xss.length - i) (0, fun _ => (none, 0), none, 0) (.cons rfl (.cons rfl (.cons rfl (.cons rfl .nil)))) (.cons rfl .nil) ?_ ?_ ?_
  · exact (fun w1 hw => by
      have h9 := hw.nil 42
      exact h9)
  · exact (by omega)
  rintro ⟨i, g, ar, cr⟩ hi
  show V _ _ _ (⟨ar, hd g (xss.take i), cr * 1, 42⟩ :: ⟨some ⟨b3, 0, none⟩, [.slice ar i cr, .slice a8 ws.length c8, .slice a11 gs.length c11], 3, 46⟩ :: ⟨a11, fl gs, c11 * 1, 23⟩ :: ⟨a8, fl ws, c8 * 1, 23⟩ :: ⟨some ⟨b2, 0, none⟩, [.slice none 0 0, .slice none 0 0, .slice none 0 0], 3, 46⟩ :: ⟨some ⟨b1, 0, none⟩, [.slice a xss.length c, .slice a1 ws.length c1, .slice a2 gs.length c2], 3, 46⟩ :: rents 23 g (xss.take i)) ([(16, .int .i64 (i : Int))] ++ [(2, _), (3, _), (14, _), (15, _)]) _ _
  have hri := fun h => hr i h
  refine V.seq ?_
  refine V.region ?_
  refine VL.r (.inl rfl) rfl (by decide) (yr_icmp rfl (.inr (.inr (.inl rfl))) rfl rfl) ?_
  refine VL.nil ?_
  refine VE.then_wp ?_
  refine V.seq ?_
  refine V.cond rfl (fun h1 => ?_) (fun h1 => ?_)
  · skip
    replace h1 := ic_lss h1
    refine V.skip ?_
    refine VE.then_wp ?_
    refine V.seq ?_
    refine V.block ?_
    refine V.seq ?_
    refine V.region ?_
    refine VL.q (.inl rfl) rfl (by decide) (yq_idx (k := i) rfl Try.underlying41 sz42_Own rfl rfl (by first | exact Sees.root (by assumption) | exact Sees.own (by repeat (first | exact List.mem_cons_self | exact List.mem_append_left _ (by assumption) | apply List.mem_cons_of_mem | apply List.mem_append_right)) | exact Sees.root (hR _ (by omega)) | exact Sees.own (RowsIn.mem (by repeat (first | exact RowsIn.here | exact RowsIn.last | apply RowsIn.there | apply RowsIn.thereS)) _ (by omega)) | exact Sees.own (WRowsIn.mem (by repeat (first | exact WRowsIn.here | exact WRowsIn.last | apply WRowsIn.there | apply WRowsIn.thereS)) _ (by omega))) (by first | rfl | omega | (push_cast; rfl) | (push_cast; omega) | exact tmod_nat _ _) (by exact hd_length _ _) (by omega)) ?_
    refine VL.q (.inl rfl) rfl (by decide) (yq_loadH rfl fb42_Own rfl (by first | exact Sees.root (by assumption) | exact Sees.own (by repeat (first | exact List.mem_cons_self | exact List.mem_append_left _ (by assumption) | apply List.mem_cons_of_mem | apply List.mem_append_right)) | exact Sees.root (hR _ (by omega)) | exact Sees.own (RowsIn.mem (by repeat (first | exact RowsIn.here | exact RowsIn.last | apply RowsIn.there | apply RowsIn.thereS)) _ (by omega)) | exact Sees.own (WRowsIn.mem (by repeat (first | exact WRowsIn.here | exact WRowsIn.last | apply WRowsIn.there | apply WRowsIn.thereS)) _ (by omega))) (by omega)) ?_
    refine VL.r (.inl rfl) rfl (by decide) (yr_assign rfl rfl) ?_
    refine VL.nil ?_
    refine VE.then_wp ?_
    refine V.draw [(0, 0), (1, 0), (2, 0), (3, 1), (4, 1), (5, 3), (6, 0), (7, 3)] mixed_Own (by kernel_rfl) (by intro j o hj; simp at hj) ?_
    refine SW.r rfl (.inl rfl) rfl (by decide) (yr_fieldAddr rfl Try.underlying46 rfl rfl sz41_Own (by decide) rfl) ?_
    refine SW.q rfl (.inl rfl) rfl (by decide) (yq_load rfl fb41_Own rfl (by first | exact Sees.root (by assumption) | exact Sees.own (by repeat (first | exact List.mem_cons_self | exact List.mem_append_left _ (by assumption) | apply List.mem_cons_of_mem | apply List.mem_append_right)) | exact Sees.root (hR _ (by omega)) | exact Sees.own (RowsIn.mem (by repeat (first | exact RowsIn.here | exact RowsIn.last | apply RowsIn.there | apply RowsIn.thereS)) _ (by omega)) | exact Sees.own (WRowsIn.mem (by repeat (first | exact WRowsIn.here | exact WRowsIn.last | apply WRowsIn.there | apply WRowsIn.thereS)) _ (by omega))) rfl) ?_
    refine SW.r rfl (.inl rfl) rfl (by decide) (yr_move rfl rfl) ?_
    refine SW.new1 rfl (.inl rfl) rfl (by decide) (yn_callf rfl known139_Own (.cons rfl .nil) (fun w hw => (c_cloneF (hR.root hw i (by omega)) (hr i (by omega))))) ?_
    rintro ⟨a23, c23⟩
    refine SW.new1 rfl (.inl rfl) rfl (by decide) (yn_lit rfl Try.underlying41 elt42_Own rfl (by decide) (.cons rfl .nil) (by first | (simp; done) | (simp [cn, cn1, cn0]; done)) rfl rfl rfl) ?_
    intro b24
    refine SW.c rfl (.inl rfl) rfl (by decide) (yc_appendz 1 rfl rfl Try.underlying41 elt42_Own rfl rfl (by repeat (first | exact UpdF.here | apply UpdF.there | apply UpdF.thereS)) (by first | exact Sees.root (by assumption) | exact Sees.own (by repeat (first | exact List.mem_cons_self | exact List.mem_append_left _ (by assumption) | apply List.mem_cons_of_mem | apply List.mem_append_right)) | exact Sees.root (hR _ (by omega)) | exact Sees.own (RowsIn.mem (by repeat (first | exact RowsIn.here | exact RowsIn.last | apply RowsIn.there | apply RowsIn.thereS)) _ (by omega)) | exact Sees.own (WRowsIn.mem (by repeat (first | exact WRowsIn.here | exact WRowsIn.last | apply WRowsIn.there | apply WRowsIn.thereS)) _ (by omega))) rfl (by first | (simp; done) | (rw [hd_length, List.length_take]; omega)) (by first | rfl | (rw [fl_length]; omega)) (by first | rfl | exact fl_scal _ | exact hd_scal _ _) (by first | rfl | exact fl_scal _ | exact hd_scal _ _) (by omega) (by omega)) ?_
    rintro ⟨a25, c25⟩
    refine SW.r rfl (.inl rfl) rfl (by decide) (yr_fieldAddr rfl Try.underlying46 rfl rfl sz41_Own (by decide) rfl) ?_
    refine SW.s rfl (.inl rfl) rfl (yc_store rfl sz41_Own rfl rfl (by repeat (first | exact UpdF.here | apply UpdF.there | apply UpdF.thereS)) (.inl ⟨rfl, rfl⟩) rfl (by first | exact Nat.le_of_ble_eq_true rfl | simp) (by decide) rfl) ?_
    rintro ⟨⟩
    refine SW.done ?_
    refine VE.block_normal ?_
    refine VE.then_wp ?_
    refine V.region ?_
    refine VL.r (.inl rfl) rfl (by decide) (yr_int rfl rfl rfl (.inl ⟨rfl, wrap_in (by omega)⟩)) ?_
    refine VL.r (.inl rfl) rfl (by decide) (yr_move rfl rfl) ?_
    refine VL.nil ?_
    refine VE.round (i + 1, upd g i (a23, c23), a25, c25) ?_ ?_ ?_ ?_ ?_
    · exact (.cons rfl .nil)
    · exact (.cons rfl (.cons rfl (.cons rfl (.cons rfl .nil))))
    · exact (fun w1 hw => by
        have h9 := hw.sub (List.sublist_cons_self _ _)
        simp only [List.append_nil] at h9
        rw [hd_take (by omega) (a23, c23)] at h9
        exact Hp.snocRow (A := [_, _, _, _, _, _]) (by omega) (a23, c23) h9)
    · omega
    · (try dsimp only); omega
  · skip
    replace h1 := ic_lss' h1
    refine V.exit ?_
    refine VE.then_exit ?_
    refine VE.then_exit ?_
    refine VE.block_here ?_
    refine VE.then_wp ?_
    refine V.seq ?_
    refine V.region ?_
    refine VL.q (.inl rfl) rfl (by decide) (yq_loadS rfl Try.underlying46 sz46_Own rfl (by first | exact Sees.root (by assumption) | exact Sees.own (by repeat (first | exact List.mem_cons_self | exact List.mem_append_left _ (by assumption) | apply List.mem_cons_of_mem | apply List.mem_append_right)) | exact Sees.root (hR _ (by omega)) | exact Sees.own (RowsIn.mem (by repeat (first | exact RowsIn.here | exact RowsIn.last | apply RowsIn.there | apply RowsIn.thereS)) _ (by omega)) | exact Sees.own (WRowsIn.mem (by repeat (first | exact WRowsIn.here | exact WRowsIn.last | apply WRowsIn.there | apply WRowsIn.thereS)) _ (by omega))) rfl rfl rfl) ?_
    refine VL.s (.inl rfl) rfl (yc_store rfl sz46_Own rfl rfl (by repeat (first | exact UpdF.here | apply UpdF.there | apply UpdF.thereS)) (.inr ⟨rfl, rfl⟩) rfl (by first | exact Nat.le_of_ble_eq_true rfl | simp) (by decide) rfl) ?_
    rintro ⟨⟩
    refine VL.nil ?_
    refine VE.then_wp ?_
    refine V.ret ?_
    refine retC rfl (rv_cellS rfl Try.underlying46 sz46_Own (by first | exact Sees.root (by assumption) | exact Sees.own (by repeat (first | exact List.mem_cons_self | exact List.mem_append_left _ (by assumption) | apply List.mem_cons_of_mem | apply List.mem_append_right)) | exact Sees.root (hR _ (by omega)) | exact Sees.own (RowsIn.mem (by repeat (first | exact RowsIn.here | exact RowsIn.last | apply RowsIn.there | apply RowsIn.thereS)) _ (by omega)) | exact Sees.own (WRowsIn.mem (by repeat (first | exact WRowsIn.here | exact WRowsIn.last | apply WRowsIn.there | apply WRowsIn.thereS)) _ (by omega))) rfl rfl rfl) (by nofun) (fun w1 hw => ?_)
    obtain rfl : i = xss.length := by omega
    rw [List.take_length] at hw
    exact ⟨(((ar, cr), g), (a8, c8), (a11, c11)), rfl, (hw.pick (by apply Pick.four; all_goals (repeat (first | exact Rem.here | exact Rem.all | exact Rem.hereS | apply Rem.there | apply Rem.thereS)))).outs (List.Sublist.refl _)⟩

theorem c_ifDesignY {w : World} {a a1 a2 : Option Addr} {c c1 c2 : Nat} {f : Nat → Option Addr × Nat} {xss : List (List Nat)} {ws gs : List Nat} {m m1 m2 : Nat} (em : m = xss.length) (em1 : m1 = ws.length) (em2 : m2 = gs.length) (hA : Cl w a (hd f xss)) (hR : Rws w f xss) (hW : Cl w a1 (fl ws)) (hG : Cl w a2 (fl gs)) (hsz : bulk xss + ws.length + gs.length ≤ 1050000) (hv : validD xss ws gs = true) : Pure Try.prog 83 [.agg #[.slice a m c, .slice a1 m1 c1, .slice a2 m2 c2]] w (.tuple #[.agg #[.slice a m c, .slice a1 m1 c1, .slice a2 m2 c2], .bool true]) := by
  subst em
  subst em1
  subst em2
  refine Pure.enter Try.func83 rfl Try.ntmps83 (Nat.le_of_ble_eq_true rfl) ?_
  refine V.seq ?_
  refine V.region ?_
  refine VL.new1 (.inl rfl) rfl (by decide) (yn_box rfl rfl (.inr ⟨rfl, rfl⟩)) ?_
  intro b1
  refine VL.new1 (.inl rfl) rfl (by decide) (yn_alloc rfl zero46_Own rfl) ?_
  intro b2
  refine VL.r (.inl rfl) rfl (by decide) (yr_assign (u := .bool false) rfl rfl) ?_
  refine VL.nil ?_
  refine VE.then_wp ?_
  refine V.seq ?_
  refine V.seq ?_
  refine V.region ?_
  refine VL.q (.inl rfl) rfl (by decide) (yq_loadS rfl Try.underlying46 sz46_Own rfl (by first | exact Sees.root (by assumption) | exact Sees.own (by repeat (first | exact List.mem_cons_self | exact List.mem_append_left _ (by assumption) | apply List.mem_cons_of_mem | apply List.mem_append_right)) | exact Sees.root (hR _ (by omega)) | exact Sees.own (RowsIn.mem (by repeat (first | exact RowsIn.here | exact RowsIn.last | apply RowsIn.there | apply RowsIn.thereS)) _ (by omega)) | exact Sees.own (WRowsIn.mem (by repeat (first | exact WRowsIn.here | exact WRowsIn.last | apply WRowsIn.there | apply WRowsIn.thereS)) _ (by omega))) rfl rfl rfl) ?_
  refine VL.q (.inl rfl) rfl (by decide) (yq_callf rfl known81_Own (.cons rfl .nil) (fun w hw => (c_implValid (by first | exact Sees.root (by assumption) w hw | exact Sees.own (by repeat (first | exact List.mem_cons_self | exact List.mem_append_left _ (by assumption) | apply List.mem_cons_of_mem | apply List.mem_append_right)) w hw) (by first | exact Rws.root (by assumption) hw | exact Rws.own (by repeat (first | exact RowsIn.here | exact RowsIn.last | apply RowsIn.there | apply RowsIn.thereS)) hw) (by first | exact Sees.root (by assumption) w hw | exact Sees.own (by repeat (first | exact List.mem_cons_self | exact List.mem_append_left _ (by assumption) | apply List.mem_cons_of_mem | apply List.mem_append_right)) w hw) (by first | exact Sees.root (by assumption) w hw | exact Sees.own (by repeat (first | exact List.mem_cons_self | exact List.mem_append_left _ (by assumption) | apply List.mem_cons_of_mem | apply List.mem_append_right)) w hw) (by omega)))) ?_
  refine VL.r (.inl rfl) rfl (by decide) (yr_not rfl rfl) ?_
  refine VL.nil ?_
  refine VE.then_wp ?_
  refine V.cond rfl (fun h1 => ?_) (fun h1 => ?_)
  · skip
    replace h1 := bnot_t h1
    rw [hv] at h1; cases h1
  · skip
    replace h1 := bnot_f h1
    refine V.skip ?_
    refine VE.then_wp ?_
    refine V.seq ?_
    refine V.region ?_
    refine VL.q (.inl rfl) rfl (by decide) (yq_loadS rfl Try.underlying46 sz46_Own rfl (by first | exact Sees.root (by assumption) | exact Sees.own (by repeat (first | exact List.mem_cons_self | exact List.mem_append_left _ (by assumption) | apply List.mem_cons_of_mem | apply List.mem_append_right)) | exact Sees.root (hR _ (by omega)) | exact Sees.own (RowsIn.mem (by repeat (first | exact RowsIn.here | exact RowsIn.last | apply RowsIn.there | apply RowsIn.thereS)) _ (by omega)) | exact Sees.own (WRowsIn.mem (by repeat (first | exact WRowsIn.here | exact WRowsIn.last | apply WRowsIn.there | apply WRowsIn.thereS)) _ (by omega))) rfl rfl rfl) ?_
    refine VL.s (.inl rfl) rfl (yc_store rfl sz46_Own rfl rfl (by repeat (first | exact UpdF.here | apply UpdF.there | apply UpdF.thereS)) (.inr ⟨rfl, rfl⟩) rfl (by first | exact Nat.le_of_ble_eq_true rfl | simp) (by decide) rfl) ?_
    rintro ⟨⟩
    refine VL.r (.inl rfl) rfl (by decide) (yr_assign (u := .bool true) rfl rfl) ?_
    refine VL.nil ?_
    refine VE.then_wp ?_
    refine V.ret ?_
    refine retN rfl (.cons (rv_cellS rfl Try.underlying46 sz46_Own (by first | exact Sees.root (by assumption) | exact Sees.own (by repeat (first | exact List.mem_cons_self | exact List.mem_append_left _ (by assumption) | apply List.mem_cons_of_mem | apply List.mem_append_right)) | exact Sees.root (hR _ (by omega)) | exact Sees.own (RowsIn.mem (by repeat (first | exact RowsIn.here | exact RowsIn.last | apply RowsIn.there | apply RowsIn.thereS)) _ (by omega)) | exact Sees.own (WRowsIn.mem (by repeat (first | exact WRowsIn.here | exact WRowsIn.last | apply WRowsIn.there | apply WRowsIn.thereS)) _ (by omega))) rfl rfl rfl) (.cons (rv_tmp rfl (by nofun)) .nil)) (by nofun) (fun w1 hw => ?_)
    exact ⟨rfl, hw.below⟩

theorem c_ifDesignN {w : World} {a a1 a2 : Option Addr} {c c1 c2 : Nat} {f : Nat → Option Addr × Nat} {xss : List (List Nat)} {ws gs : List Nat} {m m1 m2 : Nat} (em : m = xss.length) (em1 : m1 = ws.length) (em2 : m2 = gs.length) (hA : Cl w a (hd f xss)) (hR : Rws w f xss) (hW : Cl w a1 (fl ws)) (hG : Cl w a2 (fl gs)) (hsz : bulk xss + ws.length + gs.length ≤ 1050000) (hv : validD xss ws gs = false) : Pure Try.prog 83 [.agg #[.slice a m c, .slice a1 m1 c1, .slice a2 m2 c2]] w (.tuple #[.agg #[.slice none 0 0, .slice none 0 0, .slice none 0 0], .bool false]) := by
  subst em
  subst em1
  subst em2
  refine Pure.enter Try.func83 rfl Try.ntmps83 (Nat.le_of_ble_eq_true rfl) ?_
  refine V.seq ?_
  refine V.region ?_
  refine VL.new1 (.inl rfl) rfl (by decide) (yn_box rfl rfl (.inr ⟨rfl, rfl⟩)) ?_
  intro b1
  refine VL.new1 (.inl rfl) rfl (by decide) (yn_alloc rfl zero46_Own rfl) ?_
  intro b2
  refine VL.r (.inl rfl) rfl (by decide) (yr_assign (u := .bool false) rfl rfl) ?_
  refine VL.nil ?_
  refine VE.then_wp ?_
  refine V.seq ?_
  refine V.seq ?_
  refine V.region ?_
  refine VL.q (.inl rfl) rfl (by decide) (yq_loadS rfl Try.underlying46 sz46_Own rfl (by first | exact Sees.root (by assumption) | exact Sees.own (by repeat (first | exact List.mem_cons_self | exact List.mem_append_left _ (by assumption) | apply List.mem_cons_of_mem | apply List.mem_append_right)) | exact Sees.root (hR _ (by omega)) | exact Sees.own (RowsIn.mem (by repeat (first | exact RowsIn.here | exact RowsIn.last | apply RowsIn.there | apply RowsIn.thereS)) _ (by omega)) | exact Sees.own (WRowsIn.mem (by repeat (first | exact WRowsIn.here | exact WRowsIn.last | apply WRowsIn.there | apply WRowsIn.thereS)) _ (by omega))) rfl rfl rfl) ?_
  refine VL.q (.inl rfl) rfl (by decide) (yq_callf rfl known81_Own (.cons rfl .nil) (fun w hw => (c_implValid (by first | exact Sees.root (by assumption) w hw | exact Sees.own (by repeat (first | exact List.mem_cons_self | exact List.mem_append_left _ (by assumption) | apply List.mem_cons_of_mem | apply List.mem_append_right)) w hw) (by first | exact Rws.root (by assumption) hw | exact Rws.own (by repeat (first | exact RowsIn.here | exact RowsIn.last | apply RowsIn.there | apply RowsIn.thereS)) hw) (by first | exact Sees.root (by assumption) w hw | exact Sees.own (by repeat (first | exact List.mem_cons_self | exact List.mem_append_left _ (by assumption) | apply List.mem_cons_of_mem | apply List.mem_append_right)) w hw) (by first | exact Sees.root (by assumption) w hw | exact Sees.own (by repeat (first | exact List.mem_cons_self | exact List.mem_append_left _ (by assumption) | apply List.mem_cons_of_mem | apply List.mem_append_right)) w hw) (by omega)))) ?_
  refine VL.r (.inl rfl) rfl (by decide) (yr_not rfl rfl) ?_
  refine VL.nil ?_
  refine VE.then_wp ?_
  refine V.cond rfl (fun h1 => ?_) (fun h1 => ?_)
  · skip
    replace h1 := bnot_t h1
    refine V.seq ?_
    refine V.region ?_
    refine VL.r (.inl rfl) rfl (by decide) (yr_build rfl lay46_Own rfl .nil (by first | (simp; done) | (simp [vv]; done) | (simp [cn, cn1, cn0]; done)) rfl) ?_
    refine VL.s (.inl rfl) rfl (yc_store rfl sz46_Own rfl rfl (by repeat (first | exact UpdF.here | apply UpdF.there | apply UpdF.thereS)) (.inr ⟨rfl, rfl⟩) rfl (by first | exact Nat.le_of_ble_eq_true rfl | simp) (by decide) rfl) ?_
    rintro ⟨⟩
    refine VL.r (.inl rfl) rfl (by decide) (yr_assign (u := .bool false) rfl rfl) ?_
    refine VL.nil ?_
    refine VE.then_wp ?_
    refine V.ret ?_
    refine VE.then_ret ?_
    refine retN rfl (.cons (rv_cellS rfl Try.underlying46 sz46_Own (by first | exact Sees.root (by assumption) | exact Sees.own (by repeat (first | exact List.mem_cons_self | exact List.mem_append_left _ (by assumption) | apply List.mem_cons_of_mem | apply List.mem_append_right)) | exact Sees.root (hR _ (by omega)) | exact Sees.own (RowsIn.mem (by repeat (first | exact RowsIn.here | exact RowsIn.last | apply RowsIn.there | apply RowsIn.thereS)) _ (by omega)) | exact Sees.own (WRowsIn.mem (by repeat (first | exact WRowsIn.here | exact WRowsIn.last | apply WRowsIn.there | apply WRowsIn.thereS)) _ (by omega))) rfl rfl rfl) (.cons (rv_tmp rfl (by nofun)) .nil)) (by nofun) (fun w1 hw => ?_)
    exact ⟨rfl, hw.below⟩
  · skip
    replace h1 := bnot_f h1
    rw [hv] at h1; cases h1

theorem c_implMerge {w : World} {a a1 a2 : Option Addr} {c c1 c2 : Nat} {f : Nat → Option Addr × Nat} {xss : List (List Nat)} {ws gs : List Nat} {a' a1' a2' : Option Addr} {c' c1' c2' : Nat} {f' : Nat → Option Addr × Nat} {yss : List (List Nat)} {vs hs : List Nat} (hA : Cl w a (hd f xss)) (hR : Rws w f xss) (hW : Cl w a1 (fl ws)) (hG : Cl w a2 (fl gs)) (hA' : Cl w a' (hd f' yss)) (hR' : Rws w f' yss) (hW' : Cl w a1' (fl vs)) (hG' : Cl w a2' (fl hs)) (hsz : bulk xss + ws.length + gs.length ≤ 1050000) (hsz2 : bulk yss + vs.length + hs.length ≤ 1050000) : New Try.prog 22 [.agg #[.slice a xss.length c, .slice a1 ws.length c1, .slice a2 gs.length c2], .agg #[.slice a' yss.length c', .slice a1' vs.length c1', .slice a2' hs.length c2']] w (fun (p : ((Option Addr × Nat) × (Nat → Option Addr × Nat)) × (Option Addr × Nat) × (Option Addr × Nat)) => .tuple #[.agg #[.slice p.1.1.1 (mergeX xss yss ws gs vs hs).length p.1.1.2, .slice p.2.1.1 (mergeW xss yss ws gs vs hs).length p.2.1.2, .slice p.2.2.1 (mergeG xss yss ws gs vs hs).length p.2.2.2], .bool (mergeOk xss yss ws gs vs hs)]) (fun p => ⟨p.2.2.1, fl (mergeG xss yss ws gs vs hs), p.2.2.2 * 1, 23⟩ :: ⟨p.2.1.1, fl (mergeW xss yss ws gs vs hs), p.2.1.2 * 1, 23⟩ :: ⟨p.1.1.1, hd p.1.2 (mergeX xss yss ws gs vs hs), p.1.1.2 * 1, 42⟩ :: rents 23 p.1.2 (mergeX xss yss ws gs vs hs)) := by
  refine New.enter Try.func22 rfl Try.ntmps22 (Nat.le_of_ble_eq_true rfl) ?_
  have hr : ∀ i, i < xss.length → (xss.getD i []).length ≤ 1050000 := fun i hi => by have := bulk_row hi; omega
  have hxl : xss.length ≤ bulk xss := by unfold bulk; omega
  refine V.seq ?_
  refine V.region ?_
  refine VL.new1 (.inl rfl) rfl (by decide) (yn_box rfl rfl (.inr ⟨rfl, rfl⟩)) ?_
  intro b2
  refine VL.new1 (.inl rfl) rfl (by decide) (yn_box rfl rfl (.inr ⟨rfl, rfl⟩)) ?_
  intro b3
  refine VL.new1 (.inl rfl) rfl (by decide) (yn_alloc rfl zero46_Own rfl) ?_
  intro b4
  refine VL.r (.inl rfl) rfl (by decide) (yr_assign (u := .bool false) rfl rfl) ?_
  refine VL.nil ?_
  refine VE.then_wp ?_
  refine V.seq ?_
  refine V.seq ?_
  refine V.region ?_
  refine VL.q (.inl rfl) rfl (by decide) (yq_loadS rfl Try.underlying46 sz46_Own rfl (by first | exact Sees.root (by assumption) | exact Sees.own (by repeat (first | exact List.mem_cons_self | exact List.mem_append_left _ (by assumption) | apply List.mem_cons_of_mem | apply List.mem_append_right)) | exact Sees.root (hR _ (by omega)) | exact Sees.own (RowsIn.mem (by repeat (first | exact RowsIn.here | exact RowsIn.last | apply RowsIn.there | apply RowsIn.thereS)) _ (by omega)) | exact Sees.own (WRowsIn.mem (by repeat (first | exact WRowsIn.here | exact WRowsIn.last | apply WRowsIn.there | apply WRowsIn.thereS)) _ (by omega))) rfl rfl rfl) ?_
  refine VL.q (.inl rfl) rfl (by decide) (yq_callf rfl known81_Own (.cons rfl .nil) (fun w hw => (c_implValid (by first | exact Sees.root (by assumption) w hw | exact Sees.own (by repeat (first | exact List.mem_cons_self | exact List.mem_append_left _ (by assumption) | apply List.mem_cons_of_mem | apply List.mem_append_right)) w hw) (by first | exact Rws.root (by assumption) hw | exact Rws.own (by repeat (first | exact RowsIn.here | exact RowsIn.last | apply RowsIn.there | apply RowsIn.thereS)) hw) (by first | exact Sees.root (by assumption) w hw | exact Sees.own (by repeat (first | exact List.mem_cons_self | exact List.mem_append_left _ (by assumption) | apply List.mem_cons_of_mem | apply List.mem_append_right)) w hw) (by first | exact Sees.root (by assumption) w hw | exact Sees.own (by repeat (first | exact List.mem_cons_self | exact List.mem_append_left _ (by assumption) | apply List.mem_cons_of_mem | apply List.mem_append_right)) w hw) (by omega)))) ?_
  refine VL.r (.inl rfl) rfl (by decide) (yr_not rfl rfl) ?_
  refine VL.r (.inl rfl) rfl (by decide) (yr_move rfl rfl) ?_
  refine VX.split 11 _ rfl (fun h1 => ?_) (fun h1 => ?_)
  · skip
    replace h1 := bnot_t h1
    refine VL.no rfl rfl rfl rfl rfl (by decide) ?_
    refine VL.no rfl rfl rfl rfl rfl (by decide) ?_
    refine VL.no rfl rfl rfl rfl rfl (by decide) ?_
    refine VL.r (.inl rfl) rfl (by decide) (yr_pick_t (u := .bool true) rfl rfl rfl) ?_
    refine VL.nil ?_
    refine VE.then_wp ?_
    refine V.condT rfl ?_
    refine V.seq ?_
    refine V.region ?_
    refine VL.r (.inl rfl) rfl (by decide) (yr_build rfl lay46_Own rfl .nil (by first | (simp; done) | (simp [vv]; done) | (simp [cn, cn1, cn0]; done)) rfl) ?_
    refine VL.s (.inl rfl) rfl (yc_store rfl sz46_Own rfl rfl (by repeat (first | exact UpdF.here | apply UpdF.there | apply UpdF.thereS)) (.inr ⟨rfl, rfl⟩) rfl (by first | exact Nat.le_of_ble_eq_true rfl | simp) (by decide) rfl) ?_
    rintro ⟨⟩
    refine VL.r (.inl rfl) rfl (by decide) (yr_assign (u := .bool false) rfl rfl) ?_
    refine VL.nil ?_
    refine VE.then_wp ?_
    refine V.ret ?_
    refine VE.then_ret ?_
    refine retN rfl (.cons (rv_cellS rfl Try.underlying46 sz46_Own (by first | exact Sees.root (by assumption) | exact Sees.own (by repeat (first | exact List.mem_cons_self | exact List.mem_append_left _ (by assumption) | apply List.mem_cons_of_mem | apply List.mem_append_right)) | exact Sees.root (hR _ (by omega)) | exact Sees.own (RowsIn.mem (by repeat (first | exact RowsIn.here | exact RowsIn.last | apply RowsIn.there | apply RowsIn.thereS)) _ (by omega)) | exact Sees.own (WRowsIn.mem (by repeat (first | exact WRowsIn.here | exact WRowsIn.last | apply WRowsIn.there | apply WRowsIn.thereS)) _ (by omega))) rfl rfl rfl) (.cons (rv_tmp rfl (by nofun)) .nil)) (by nofun) (fun w1 hw => ?_)
    first
      | (have hs9 := merge_yes hva hvb hm
         rw [mergeX_yes hs9, mergeW_yes hs9, mergeG_yes hs9, hs9]
         refine ⟨(((a25, c25), catF xss.length f18 f20), (a30, c30), (a35, c35)), by rw [List.length_append, List.length_append, List.length_append] <;> rfl, ?_⟩
         dsimp only
         rw [← hd_append, ← rents_append, ← fl_append, ← fl_append]
         exact (hw.pick (by apply Pick.five; all_goals (repeat (first | exact Rem.here | exact Rem.all | exact Rem.hereS | apply Rem.there | apply Rem.thereS)))).outs (List.Sublist.refl _))
      | (have hs9 : mergeOk xss yss ws gs vs hs = false := by first | exact merge_no3 hm | exact merge_no1 (by assumption) | exact merge_no2 (by assumption)
         rw [mergeX_no hs9, mergeW_no hs9, mergeG_no hs9, hs9]
         exact ⟨(((none, 0), fun _ => (none, 0)), (none, 0), (none, 0)), rfl, hw.below, by simp [fl, hd, rents, Ent.at], by simp [fl, hd, rents, Ent.apart]⟩)
  · skip
    replace h1 := bnot_f h1
    have hva := h1
    refine VL.q (.inr ⟨_, _, _, rfl, rfl, rfl⟩) rfl (by decide) (yq_loadS rfl Try.underlying46 sz46_Own rfl (by first | exact Sees.root (by assumption) | exact Sees.own (by repeat (first | exact List.mem_cons_self | exact List.mem_append_left _ (by assumption) | apply List.mem_cons_of_mem | apply List.mem_append_right)) | exact Sees.root (hR _ (by omega)) | exact Sees.own (RowsIn.mem (by repeat (first | exact RowsIn.here | exact RowsIn.last | apply RowsIn.there | apply RowsIn.thereS)) _ (by omega)) | exact Sees.own (WRowsIn.mem (by repeat (first | exact WRowsIn.here | exact WRowsIn.last | apply WRowsIn.there | apply WRowsIn.thereS)) _ (by omega))) rfl rfl rfl) ?_
    refine VL.q (.inr ⟨_, _, _, rfl, rfl, rfl⟩) rfl (by decide) (yq_callf rfl known81_Own (.cons rfl .nil) (fun w hw => (c_implValid (by first | exact Sees.root (by assumption) w hw | exact Sees.own (by repeat (first | exact List.mem_cons_self | exact List.mem_append_left _ (by assumption) | apply List.mem_cons_of_mem | apply List.mem_append_right)) w hw) (by first | exact Rws.root (by assumption) hw | exact Rws.own (by repeat (first | exact RowsIn.here | exact RowsIn.last | apply RowsIn.there | apply RowsIn.thereS)) hw) (by first | exact Sees.root (by assumption) w hw | exact Sees.own (by repeat (first | exact List.mem_cons_self | exact List.mem_append_left _ (by assumption) | apply List.mem_cons_of_mem | apply List.mem_append_right)) w hw) (by first | exact Sees.root (by assumption) w hw | exact Sees.own (by repeat (first | exact List.mem_cons_self | exact List.mem_append_left _ (by assumption) | apply List.mem_cons_of_mem | apply List.mem_append_right)) w hw) (by omega)))) ?_
    refine VL.r (.inr ⟨_, _, _, rfl, rfl, rfl⟩) rfl (by decide) (yr_not rfl rfl) ?_
    refine VL.r (.inl rfl) rfl (by decide) (yr_pick_f rfl rfl rfl) ?_
    refine VL.nil ?_
    refine VE.then_wp ?_
    refine V.cond rfl (fun h3 => ?_) (fun h3 => ?_)
    · skip
      replace h3 := bnot_t h3
      refine V.seq ?_
      refine V.region ?_
      refine VL.r (.inl rfl) rfl (by decide) (yr_build rfl lay46_Own rfl .nil (by first | (simp; done) | (simp [vv]; done) | (simp [cn, cn1, cn0]; done)) rfl) ?_
      refine VL.s (.inl rfl) rfl (yc_store rfl sz46_Own rfl rfl (by repeat (first | exact UpdF.here | apply UpdF.there | apply UpdF.thereS)) (.inr ⟨rfl, rfl⟩) rfl (by first | exact Nat.le_of_ble_eq_true rfl | simp) (by decide) rfl) ?_
      rintro ⟨⟩
      refine VL.r (.inl rfl) rfl (by decide) (yr_assign (u := .bool false) rfl rfl) ?_
      refine VL.nil ?_
      refine VE.then_wp ?_
      refine V.ret ?_
      refine VE.then_ret ?_
      refine retN rfl (.cons (rv_cellS rfl Try.underlying46 sz46_Own (by first | exact Sees.root (by assumption) | exact Sees.own (by repeat (first | exact List.mem_cons_self | exact List.mem_append_left _ (by assumption) | apply List.mem_cons_of_mem | apply List.mem_append_right)) | exact Sees.root (hR _ (by omega)) | exact Sees.own (RowsIn.mem (by repeat (first | exact RowsIn.here | exact RowsIn.last | apply RowsIn.there | apply RowsIn.thereS)) _ (by omega)) | exact Sees.own (WRowsIn.mem (by repeat (first | exact WRowsIn.here | exact WRowsIn.last | apply WRowsIn.there | apply WRowsIn.thereS)) _ (by omega))) rfl rfl rfl) (.cons (rv_tmp rfl (by nofun)) .nil)) (by nofun) (fun w1 hw => ?_)
      first
        | (have hs9 := merge_yes hva hvb hm
           rw [mergeX_yes hs9, mergeW_yes hs9, mergeG_yes hs9, hs9]
           refine ⟨(((a25, c25), catF xss.length f18 f20), (a30, c30), (a35, c35)), by rw [List.length_append, List.length_append, List.length_append] <;> rfl, ?_⟩
           dsimp only
           rw [← hd_append, ← rents_append, ← fl_append, ← fl_append]
           exact (hw.pick (by apply Pick.five; all_goals (repeat (first | exact Rem.here | exact Rem.all | exact Rem.hereS | apply Rem.there | apply Rem.thereS)))).outs (List.Sublist.refl _))
        | (have hs9 : mergeOk xss yss ws gs vs hs = false := by first | exact merge_no3 hm | exact merge_no1 (by assumption) | exact merge_no2 (by assumption)
           rw [mergeX_no hs9, mergeW_no hs9, mergeG_no hs9, hs9]
           exact ⟨(((none, 0), fun _ => (none, 0)), (none, 0), (none, 0)), rfl, hw.below, by simp [fl, hd, rents, Ent.at], by simp [fl, hd, rents, Ent.apart]⟩)
    · skip
      replace h3 := bnot_f h3
      have hvb := h3
      have hyl : yss.length ≤ bulk yss := by unfold bulk; omega
      have hs1 := valid_small (valid_is hva)
      have hs2 := valid_small (valid_is hvb)
      refine V.skip ?_
      refine VE.then_wp ?_
      refine V.seq ?_
      refine Dr.V.drawR [(0, 5), (2, 5), (1, 1), (3, 1), (4, 2), (5, 2), (6, 3), (7, 3)] [(4, ((fun b => .pointer (some (adr (some ⟨b, 0, none⟩) 0))), (fun b => ⟨some ⟨b, 0, none⟩, [Value.slice none 0 0, Value.slice none 0 0, Value.slice none 0 0], 3, 46⟩))), (5, ((fun b => .pointer (some (adr (some ⟨b, 0, none⟩) 0))), (fun b => ⟨some ⟨b, 0, none⟩, [Value.slice none 0 0, Value.slice none 0 0, Value.slice none 0 0], 3, 46⟩)))] [] _ mixed_Own (by kernel_rfl) (fun w hw => hw) ?_
      refine Dr.SW.p rfl (.inl rfl) rfl (by decide) (yq_loadS rfl Try.underlying46 sz46_Own rfl (by first | exact Sees.root (by assumption) | exact Sees.own (by (try simp only [List.append_assoc, List.cons_append, List.nil_append]); repeat (first | exact List.mem_cons_self | exact List.mem_append_left _ (by assumption) | apply List.mem_cons_of_mem | apply List.mem_append_right)) | exact Sees.root (hR _ (by omega)) | exact Sees.own (RowsIn.mem (by (try simp only [List.append_assoc, List.cons_append, List.nil_append]); repeat (first | exact RowsIn.here | exact RowsIn.last | apply RowsIn.there | apply RowsIn.thereS)) _ (by omega)) | exact Sees.own (WRowsIn.mem (by (try simp only [List.append_assoc, List.cons_append, List.nil_append]); repeat (first | exact WRowsIn.here | exact WRowsIn.last | apply WRowsIn.there | apply WRowsIn.thereS)) _ (by omega))) rfl rfl rfl) ?_
      refine Dr.SW.p rfl (.inl rfl) rfl (by decide) (yq_loadS rfl Try.underlying46 sz46_Own rfl (by first | exact Sees.root (by assumption) | exact Sees.own (by (try simp only [List.append_assoc, List.cons_append, List.nil_append]); repeat (first | exact List.mem_cons_self | exact List.mem_append_left _ (by assumption) | apply List.mem_cons_of_mem | apply List.mem_append_right)) | exact Sees.root (hR _ (by omega)) | exact Sees.own (RowsIn.mem (by (try simp only [List.append_assoc, List.cons_append, List.nil_append]); repeat (first | exact RowsIn.here | exact RowsIn.last | apply RowsIn.there | apply RowsIn.thereS)) _ (by omega)) | exact Sees.own (WRowsIn.mem (by (try simp only [List.append_assoc, List.cons_append, List.nil_append]); repeat (first | exact WRowsIn.here | exact WRowsIn.last | apply WRowsIn.there | apply WRowsIn.thereS)) _ (by omega))) rfl rfl rfl) ?_
      refine Dr.SW.new rfl (.inl rfl) rfl (by decide) (yn_callf rfl known82_Own (.cons rfl .nil) (fun w hw => (c_copyDesign (by first | exact Sees.root (by assumption) w hw | exact Sees.own (by (try simp only [List.append_assoc, List.cons_append, List.nil_append]); repeat (first | exact List.mem_cons_self | exact List.mem_append_left _ (by assumption) | apply List.mem_cons_of_mem | apply List.mem_append_right)) w hw) (by first | exact Rws.root (by assumption) hw | exact Rws.own (by (try simp only [List.append_assoc, List.cons_append, List.nil_append]); repeat (first | exact RowsIn.here | exact RowsIn.last | apply RowsIn.there | apply RowsIn.thereS)) hw) (by first | exact Sees.root (by assumption) w hw | exact Sees.own (by (try simp only [List.append_assoc, List.cons_append, List.nil_append]); repeat (first | exact List.mem_cons_self | exact List.mem_append_left _ (by assumption) | apply List.mem_cons_of_mem | apply List.mem_append_right)) w hw) (by first | exact Sees.root (by assumption) w hw | exact Sees.own (by (try simp only [List.append_assoc, List.cons_append, List.nil_append]); repeat (first | exact List.mem_cons_self | exact List.mem_append_left _ (by assumption) | apply List.mem_cons_of_mem | apply List.mem_append_right)) w hw) (by omega)))) ?_
      rintro ⟨⟨⟨a18, c18⟩, f18⟩, ⟨p18, q18⟩, ⟨r18, s18⟩⟩
      refine Dr.SW.new rfl (.inl rfl) rfl (by decide) (yn_callf rfl known82_Own (.cons rfl .nil) (fun w hw => (c_copyDesign (by first | exact Sees.root (by assumption) w hw | exact Sees.own (by (try simp only [List.append_assoc, List.cons_append, List.nil_append]); repeat (first | exact List.mem_cons_self | exact List.mem_append_left _ (by assumption) | apply List.mem_cons_of_mem | apply List.mem_append_right)) w hw) (by first | exact Rws.root (by assumption) hw | exact Rws.own (by (try simp only [List.append_assoc, List.cons_append, List.nil_append]); repeat (first | exact RowsIn.here | exact RowsIn.last | apply RowsIn.there | apply RowsIn.thereS)) hw) (by first | exact Sees.root (by assumption) w hw | exact Sees.own (by (try simp only [List.append_assoc, List.cons_append, List.nil_append]); repeat (first | exact List.mem_cons_self | exact List.mem_append_left _ (by assumption) | apply List.mem_cons_of_mem | apply List.mem_append_right)) w hw) (by first | exact Sees.root (by assumption) w hw | exact Sees.own (by (try simp only [List.append_assoc, List.cons_append, List.nil_append]); repeat (first | exact List.mem_cons_self | exact List.mem_append_left _ (by assumption) | apply List.mem_cons_of_mem | apply List.mem_append_right)) w hw) (by omega)))) ?_
      rintro ⟨⟨⟨a20, c20⟩, f20⟩, ⟨p20, q20⟩, ⟨r20, s20⟩⟩
      refine Dr.SW.a rfl rfl rfl (by decide) rfl (fun w0 => (yn_alloc rfl zero46_Own rfl)) ?_
      intro b6
      refine Dr.SW.a rfl rfl rfl (by decide) rfl (fun w0 => (yn_alloc rfl zero46_Own rfl)) ?_
      intro b7
      refine Dr.SW.s rfl (.inl rfl) rfl (yc_store rfl sz46_Own rfl rfl (Dr.UpdF.app (by repeat (first | exact UpdF.here | apply UpdF.there | apply UpdF.thereS))) (.inr ⟨rfl, rfl⟩) rfl (by first | exact Nat.le_of_ble_eq_true rfl | simp) (by decide) rfl) ?_
      rintro ⟨⟩
      refine Dr.SW.s rfl (.inl rfl) rfl (yc_store rfl sz46_Own rfl rfl (Dr.UpdF.app (by repeat (first | exact UpdF.here | apply UpdF.there | apply UpdF.thereS))) (.inr ⟨rfl, rfl⟩) rfl (by first | exact Nat.le_of_ble_eq_true rfl | simp) (by decide) rfl) ?_
      rintro ⟨⟩
      refine Dr.SW.done ?_
      refine Dr.eqO (by simp only [List.append_nil, List.append_assoc, List.cons_append, List.nil_append] <;> rfl) ?_
      refine VE.then_wp ?_
      refine V.seq ?_
      refine Dr.V.drawR [(0, 5), (1, 5), (2, 5), (3, 5), (5, 5), (6, 5), (7, 5), (8, 5), (10, 5), (11, 5), (12, 5), (13, 5), (4, 3), (9, 3), (14, 3), (15, 5), (16, 0), (17, 5), (18, 5), (19, 3), (20, 5)] [] [⟨r18, fl gs, s18 * 1, 23⟩, ⟨p18, fl ws, q18 * 1, 23⟩, ⟨a18, hd f18 xss, c18 * 1, 42⟩, ⟨some ⟨b4, 0, none⟩, [.slice none 0 0, .slice none 0 0, .slice none 0 0], 3, 46⟩] _ mixed_Own (by kernel_rfl) (fun w hw => Hp.pickS hw (by apply Pick.four; all_goals (repeat (first | exact Rem.here | exact Rem.all | exact Rem.hereS | apply Rem.there | apply Rem.thereS)))) ?_
      refine Dr.SW.r rfl (.inl rfl) rfl (by decide) (yr_fieldAddr rfl Try.underlying46 rfl rfl sz41_Own (by decide) rfl) ?_
      refine Dr.SW.p rfl (.inl rfl) rfl (by decide) (yq_load rfl fb41_Own rfl (by first | exact Sees.root (by assumption) | exact Sees.own (by (try simp only [List.append_assoc, List.cons_append, List.nil_append]); repeat (first | exact List.mem_cons_self | exact List.mem_append_left _ (by assumption) | apply List.mem_cons_of_mem | apply List.mem_append_right)) | exact Sees.root (hR _ (by omega)) | exact Sees.own (RowsIn.mem (by (try simp only [List.append_assoc, List.cons_append, List.nil_append]); repeat (first | exact RowsIn.here | exact RowsIn.last | apply RowsIn.there | apply RowsIn.thereS)) _ (by omega)) | exact Sees.own (WRowsIn.mem (by (try simp only [List.append_assoc, List.cons_append, List.nil_append]); repeat (first | exact WRowsIn.here | exact WRowsIn.last | apply WRowsIn.there | apply WRowsIn.thereS)) _ (by omega))) rfl) ?_
      refine Dr.SW.r rfl (.inl rfl) rfl (by decide) (yr_fieldAddr rfl Try.underlying46 rfl rfl sz41_Own (by decide) rfl) ?_
      refine Dr.SW.p rfl (.inl rfl) rfl (by decide) (yq_load rfl fb41_Own rfl (by first | exact Sees.root (by assumption) | exact Sees.own (by (try simp only [List.append_assoc, List.cons_append, List.nil_append]); repeat (first | exact List.mem_cons_self | exact List.mem_append_left _ (by assumption) | apply List.mem_cons_of_mem | apply List.mem_append_right)) | exact Sees.root (hR _ (by omega)) | exact Sees.own (RowsIn.mem (by (try simp only [List.append_assoc, List.cons_append, List.nil_append]); repeat (first | exact RowsIn.here | exact RowsIn.last | apply RowsIn.there | apply RowsIn.thereS)) _ (by omega)) | exact Sees.own (WRowsIn.mem (by (try simp only [List.append_assoc, List.cons_append, List.nil_append]); repeat (first | exact WRowsIn.here | exact WRowsIn.last | apply WRowsIn.there | apply WRowsIn.thereS)) _ (by omega))) rfl) ?_
      refine Dr.SW.r rfl (.inl rfl) rfl (by decide) (yr_fieldAddr rfl Try.underlying46 rfl rfl sz42_Own (by decide) rfl) ?_
      refine Dr.SW.p rfl (.inl rfl) rfl (by decide) (yq_load rfl fb42_Own rfl (by first | exact Sees.root (by assumption) | exact Sees.own (by (try simp only [List.append_assoc, List.cons_append, List.nil_append]); repeat (first | exact List.mem_cons_self | exact List.mem_append_left _ (by assumption) | apply List.mem_cons_of_mem | apply List.mem_append_right)) | exact Sees.root (hR _ (by omega)) | exact Sees.own (RowsIn.mem (by (try simp only [List.append_assoc, List.cons_append, List.nil_append]); repeat (first | exact RowsIn.here | exact RowsIn.last | apply RowsIn.there | apply RowsIn.thereS)) _ (by omega)) | exact Sees.own (WRowsIn.mem (by (try simp only [List.append_assoc, List.cons_append, List.nil_append]); repeat (first | exact WRowsIn.here | exact WRowsIn.last | apply WRowsIn.there | apply WRowsIn.thereS)) _ (by omega))) rfl) ?_
      refine Dr.SW.r rfl (.inl rfl) rfl (by decide) (yr_fieldAddr rfl Try.underlying46 rfl rfl sz42_Own (by decide) rfl) ?_
      refine Dr.SW.p rfl (.inl rfl) rfl (by decide) (yq_load rfl fb42_Own rfl (by first | exact Sees.root (by assumption) | exact Sees.own (by (try simp only [List.append_assoc, List.cons_append, List.nil_append]); repeat (first | exact List.mem_cons_self | exact List.mem_append_left _ (by assumption) | apply List.mem_cons_of_mem | apply List.mem_append_right)) | exact Sees.root (hR _ (by omega)) | exact Sees.own (RowsIn.mem (by (try simp only [List.append_assoc, List.cons_append, List.nil_append]); repeat (first | exact RowsIn.here | exact RowsIn.last | apply RowsIn.there | apply RowsIn.thereS)) _ (by omega)) | exact Sees.own (WRowsIn.mem (by (try simp only [List.append_assoc, List.cons_append, List.nil_append]); repeat (first | exact WRowsIn.here | exact WRowsIn.last | apply WRowsIn.there | apply WRowsIn.thereS)) _ (by omega))) rfl) ?_
      refine Dr.SW.r rfl (.inl rfl) rfl (by decide) (yr_fieldAddr rfl Try.underlying46 rfl rfl sz42_Own (by decide) rfl) ?_
      refine Dr.SW.p rfl (.inl rfl) rfl (by decide) (yq_load rfl fb42_Own rfl (by first | exact Sees.root (by assumption) | exact Sees.own (by (try simp only [List.append_assoc, List.cons_append, List.nil_append]); repeat (first | exact List.mem_cons_self | exact List.mem_append_left _ (by assumption) | apply List.mem_cons_of_mem | apply List.mem_append_right)) | exact Sees.root (hR _ (by omega)) | exact Sees.own (RowsIn.mem (by (try simp only [List.append_assoc, List.cons_append, List.nil_append]); repeat (first | exact RowsIn.here | exact RowsIn.last | apply RowsIn.there | apply RowsIn.thereS)) _ (by omega)) | exact Sees.own (WRowsIn.mem (by (try simp only [List.append_assoc, List.cons_append, List.nil_append]); repeat (first | exact WRowsIn.here | exact WRowsIn.last | apply WRowsIn.there | apply WRowsIn.thereS)) _ (by omega))) rfl) ?_
      refine Dr.SW.r rfl (.inl rfl) rfl (by decide) (yr_fieldAddr rfl Try.underlying46 rfl rfl sz42_Own (by decide) rfl) ?_
      refine Dr.SW.p rfl (.inl rfl) rfl (by decide) (yq_load rfl fb42_Own rfl (by first | exact Sees.root (by assumption) | exact Sees.own (by (try simp only [List.append_assoc, List.cons_append, List.nil_append]); repeat (first | exact List.mem_cons_self | exact List.mem_append_left _ (by assumption) | apply List.mem_cons_of_mem | apply List.mem_append_right)) | exact Sees.root (hR _ (by omega)) | exact Sees.own (RowsIn.mem (by (try simp only [List.append_assoc, List.cons_append, List.nil_append]); repeat (first | exact RowsIn.here | exact RowsIn.last | apply RowsIn.there | apply RowsIn.thereS)) _ (by omega)) | exact Sees.own (WRowsIn.mem (by (try simp only [List.append_assoc, List.cons_append, List.nil_append]); repeat (first | exact WRowsIn.here | exact WRowsIn.last | apply WRowsIn.there | apply WRowsIn.thereS)) _ (by omega))) rfl) ?_
      refine Dr.SW.c rfl (.inl rfl) rfl (by decide) (yc_appendz 1 rfl rfl Try.underlying41 elt42_Own rfl rfl (Dr.UpdF.app (by repeat (first | exact UpdF.here | apply UpdF.there | apply UpdF.thereS))) (by first | exact Sees.root (by assumption) | exact Sees.own (by (try simp only [List.append_assoc, List.cons_append, List.nil_append]); repeat (first | exact List.mem_cons_self | exact List.mem_append_left _ (by assumption) | apply List.mem_cons_of_mem | apply List.mem_append_right)) | exact Sees.root (hR _ (by omega)) | exact Sees.own (RowsIn.mem (by (try simp only [List.append_assoc, List.cons_append, List.nil_append]); repeat (first | exact RowsIn.here | exact RowsIn.last | apply RowsIn.there | apply RowsIn.thereS)) _ (by omega)) | exact Sees.own (WRowsIn.mem (by (try simp only [List.append_assoc, List.cons_append, List.nil_append]); repeat (first | exact WRowsIn.here | exact WRowsIn.last | apply WRowsIn.there | apply WRowsIn.thereS)) _ (by omega))) rfl (by first | (rw [hd_length]; omega) | (rw [fl_length]; omega)) (by first | (rw [hd_length]; omega) | (rw [fl_length]; omega)) (by first | exact fl_scal _ | exact hd_scal _ _) (by first | exact fl_scal _ | exact hd_scal _ _) (by omega) (by omega)) ?_
      rintro ⟨a25, c25⟩
      refine Dr.SW.c rfl (.inl rfl) rfl (by decide) (yc_appendz 1 rfl rfl Try.underlying42 elt23_Own rfl rfl (Dr.UpdF.app (by repeat (first | exact UpdF.here | apply UpdF.there | apply UpdF.thereS))) (by first | exact Sees.root (by assumption) | exact Sees.own (by (try simp only [List.append_assoc, List.cons_append, List.nil_append]); repeat (first | exact List.mem_cons_self | exact List.mem_append_left _ (by assumption) | apply List.mem_cons_of_mem | apply List.mem_append_right)) | exact Sees.root (hR _ (by omega)) | exact Sees.own (RowsIn.mem (by (try simp only [List.append_assoc, List.cons_append, List.nil_append]); repeat (first | exact RowsIn.here | exact RowsIn.last | apply RowsIn.there | apply RowsIn.thereS)) _ (by omega)) | exact Sees.own (WRowsIn.mem (by (try simp only [List.append_assoc, List.cons_append, List.nil_append]); repeat (first | exact WRowsIn.here | exact WRowsIn.last | apply WRowsIn.there | apply WRowsIn.thereS)) _ (by omega))) rfl (by first | (rw [hd_length]; omega) | (rw [fl_length]; omega)) (by first | (rw [hd_length]; omega) | (rw [fl_length]; omega)) (by first | exact fl_scal _ | exact hd_scal _ _) (by first | exact fl_scal _ | exact hd_scal _ _) (by omega) (by omega)) ?_
      rintro ⟨a30, c30⟩
      refine Dr.SW.c rfl (.inl rfl) rfl (by decide) (yc_appendz 1 rfl rfl Try.underlying42 elt23_Own rfl rfl (Dr.UpdF.app (by repeat (first | exact UpdF.here | apply UpdF.there | apply UpdF.thereS))) (by first | exact Sees.root (by assumption) | exact Sees.own (by (try simp only [List.append_assoc, List.cons_append, List.nil_append]); repeat (first | exact List.mem_cons_self | exact List.mem_append_left _ (by assumption) | apply List.mem_cons_of_mem | apply List.mem_append_right)) | exact Sees.root (hR _ (by omega)) | exact Sees.own (RowsIn.mem (by (try simp only [List.append_assoc, List.cons_append, List.nil_append]); repeat (first | exact RowsIn.here | exact RowsIn.last | apply RowsIn.there | apply RowsIn.thereS)) _ (by omega)) | exact Sees.own (WRowsIn.mem (by (try simp only [List.append_assoc, List.cons_append, List.nil_append]); repeat (first | exact WRowsIn.here | exact WRowsIn.last | apply WRowsIn.there | apply WRowsIn.thereS)) _ (by omega))) rfl (by first | (rw [hd_length]; omega) | (rw [fl_length]; omega)) (by first | (rw [hd_length]; omega) | (rw [fl_length]; omega)) (by first | exact fl_scal _ | exact hd_scal _ _) (by first | exact fl_scal _ | exact hd_scal _ _) (by omega) (by omega)) ?_
      rintro ⟨a35, c35⟩
      refine Dr.SW.r rfl (.inl rfl) rfl (by decide) (yr_build rfl lay46_Own rfl (.cons rfl (.cons rfl (.cons rfl .nil))) (by first | (simp; done) | (simp [vv]; done) | (simp [cn, cn1, cn0]; done)) rfl) ?_
      rcases Bool.eq_false_or_eq_true (validD (xss ++ yss) (ws ++ vs) (gs ++ hs)) with hm | hm
      · skip
        refine Dr.SW.q rfl (.inl rfl) rfl (by decide) (yq_callf rfl known83_Own (.cons rfl .nil) (fun w hw => (c_ifDesignY (f := catF xss.length f18 f20) (xss := xss ++ yss) (ws := ws ++ vs) (gs := gs ++ hs) (by rw [List.length_append]) (by rw [List.length_append]) (by rw [List.length_append]) (by rw [← hd_append]; exact (by first | exact Sees.root (by assumption) w hw | exact Sees.own (by (try simp only [List.append_assoc, List.cons_append, List.nil_append]); repeat (first | exact List.mem_cons_self | exact List.mem_append_left _ (by assumption) | apply List.mem_cons_of_mem | apply List.mem_append_right)) w hw)) (Rws.cat (by first | exact Rws.root (by assumption) hw | exact Rws.own (by (try simp only [List.append_assoc, List.cons_append, List.nil_append]); repeat (first | exact RowsIn.here | exact RowsIn.last | apply RowsIn.there | apply RowsIn.thereS)) hw) (by first | exact Rws.root (by assumption) hw | exact Rws.own (by (try simp only [List.append_assoc, List.cons_append, List.nil_append]); repeat (first | exact RowsIn.here | exact RowsIn.last | apply RowsIn.there | apply RowsIn.thereS)) hw)) (by rw [← fl_append]; exact (by first | exact Sees.root (by assumption) w hw | exact Sees.own (by (try simp only [List.append_assoc, List.cons_append, List.nil_append]); repeat (first | exact List.mem_cons_self | exact List.mem_append_left _ (by assumption) | apply List.mem_cons_of_mem | apply List.mem_append_right)) w hw)) (by rw [← fl_append]; exact (by first | exact Sees.root (by assumption) w hw | exact Sees.own (by (try simp only [List.append_assoc, List.cons_append, List.nil_append]); repeat (first | exact List.mem_cons_self | exact List.mem_append_left _ (by assumption) | apply List.mem_cons_of_mem | apply List.mem_append_right)) w hw)) (by rw [bulk_append, List.length_append, List.length_append]; omega) hm))) ?_
        refine Dr.SW.r rfl (.inl rfl) rfl (by decide) (yr_extract rfl rfl rfl (by nofun)) ?_
        refine Dr.SW.r rfl (.inl rfl) rfl (by decide) (yr_extract rfl rfl rfl (by nofun)) ?_
        refine Dr.SW.s rfl (.inl rfl) rfl (yc_store rfl sz46_Own rfl rfl (Dr.UpdF.app (by repeat (first | exact UpdF.here | apply UpdF.there | apply UpdF.thereS))) (.inr ⟨rfl, rfl⟩) rfl (by first | exact Nat.le_of_ble_eq_true rfl | simp) (by decide) rfl) ?_
        rintro ⟨⟩
        refine Dr.SW.r rfl (.inl rfl) rfl (by decide) (yr_assign rfl rfl) ?_
        refine Dr.SW.done ?_
        refine Dr.eqO (by simp only [List.append_nil, List.append_assoc, List.cons_append, List.nil_append] <;> rfl) ?_
        refine VE.then_wp ?_
        refine V.ret ?_
        refine retN rfl (.cons (rv_cellS rfl Try.underlying46 sz46_Own (by first | exact Sees.root (by assumption) | exact Sees.own (by repeat (first | exact List.mem_cons_self | exact List.mem_append_left _ (by assumption) | apply List.mem_cons_of_mem | apply List.mem_append_right)) | exact Sees.root (hR _ (by omega)) | exact Sees.own (RowsIn.mem (by repeat (first | exact RowsIn.here | exact RowsIn.last | apply RowsIn.there | apply RowsIn.thereS)) _ (by omega)) | exact Sees.own (WRowsIn.mem (by repeat (first | exact WRowsIn.here | exact WRowsIn.last | apply WRowsIn.there | apply WRowsIn.thereS)) _ (by omega))) rfl rfl rfl) (.cons (rv_tmp rfl (by nofun)) .nil)) (by nofun) (fun w1 hw => ?_)
        first
          | (have hs9 := merge_yes hva hvb hm
             rw [mergeX_yes hs9, mergeW_yes hs9, mergeG_yes hs9, hs9]
             refine ⟨(((a25, c25), catF xss.length f18 f20), (a30, c30), (a35, c35)), by rw [List.length_append, List.length_append, List.length_append] <;> rfl, ?_⟩
             dsimp only
             rw [← hd_append, ← rents_append, ← fl_append, ← fl_append]
             exact (hw.pick (by apply Pick.five; all_goals (repeat (first | exact Rem.here | exact Rem.all | exact Rem.hereS | apply Rem.there | apply Rem.thereS)))).outs (List.Sublist.refl _))
          | (have hs9 : mergeOk xss yss ws gs vs hs = false := by first | exact merge_no3 hm | exact merge_no1 (by assumption) | exact merge_no2 (by assumption)
             rw [mergeX_no hs9, mergeW_no hs9, mergeG_no hs9, hs9]
             exact ⟨(((none, 0), fun _ => (none, 0)), (none, 0), (none, 0)), rfl, hw.below, by simp [fl, hd, rents, Ent.at], by simp [fl, hd, rents, Ent.apart]⟩)
      · skip
        refine Dr.SW.q rfl (.inl rfl) rfl (by decide) (yq_callf rfl known83_Own (.cons rfl .nil) (fun w hw => (c_ifDesignN (f := catF xss.length f18 f20) (xss := xss ++ yss) (ws := ws ++ vs) (gs := gs ++ hs) (by rw [List.length_append]) (by rw [List.length_append]) (by rw [List.length_append]) (by rw [← hd_append]; exact (by first | exact Sees.root (by assumption) w hw | exact Sees.own (by (try simp only [List.append_assoc, List.cons_append, List.nil_append]); repeat (first | exact List.mem_cons_self | exact List.mem_append_left _ (by assumption) | apply List.mem_cons_of_mem | apply List.mem_append_right)) w hw)) (Rws.cat (by first | exact Rws.root (by assumption) hw | exact Rws.own (by (try simp only [List.append_assoc, List.cons_append, List.nil_append]); repeat (first | exact RowsIn.here | exact RowsIn.last | apply RowsIn.there | apply RowsIn.thereS)) hw) (by first | exact Rws.root (by assumption) hw | exact Rws.own (by (try simp only [List.append_assoc, List.cons_append, List.nil_append]); repeat (first | exact RowsIn.here | exact RowsIn.last | apply RowsIn.there | apply RowsIn.thereS)) hw)) (by rw [← fl_append]; exact (by first | exact Sees.root (by assumption) w hw | exact Sees.own (by (try simp only [List.append_assoc, List.cons_append, List.nil_append]); repeat (first | exact List.mem_cons_self | exact List.mem_append_left _ (by assumption) | apply List.mem_cons_of_mem | apply List.mem_append_right)) w hw)) (by rw [← fl_append]; exact (by first | exact Sees.root (by assumption) w hw | exact Sees.own (by (try simp only [List.append_assoc, List.cons_append, List.nil_append]); repeat (first | exact List.mem_cons_self | exact List.mem_append_left _ (by assumption) | apply List.mem_cons_of_mem | apply List.mem_append_right)) w hw)) (by rw [bulk_append, List.length_append, List.length_append]; omega) hm))) ?_
        refine Dr.SW.r rfl (.inl rfl) rfl (by decide) (yr_extract rfl rfl rfl (by nofun)) ?_
        refine Dr.SW.r rfl (.inl rfl) rfl (by decide) (yr_extract rfl rfl rfl (by nofun)) ?_
        refine Dr.SW.s rfl (.inl rfl) rfl (yc_store rfl sz46_Own rfl rfl (Dr.UpdF.app (by repeat (first | exact UpdF.here | apply UpdF.there | apply UpdF.thereS))) (.inr ⟨rfl, rfl⟩) rfl (by first | exact Nat.le_of_ble_eq_true rfl | simp) (by decide) rfl) ?_
        rintro ⟨⟩
        refine Dr.SW.r rfl (.inl rfl) rfl (by decide) (yr_assign rfl rfl) ?_
        refine Dr.SW.done ?_
        refine Dr.eqO (by simp only [List.append_nil, List.append_assoc, List.cons_append, List.nil_append] <;> rfl) ?_
        refine VE.then_wp ?_
        refine V.ret ?_
        refine retN rfl (.cons (rv_cellS rfl Try.underlying46 sz46_Own (by first | exact Sees.root (by assumption) | exact Sees.own (by repeat (first | exact List.mem_cons_self | exact List.mem_append_left _ (by assumption) | apply List.mem_cons_of_mem | apply List.mem_append_right)) | exact Sees.root (hR _ (by omega)) | exact Sees.own (RowsIn.mem (by repeat (first | exact RowsIn.here | exact RowsIn.last | apply RowsIn.there | apply RowsIn.thereS)) _ (by omega)) | exact Sees.own (WRowsIn.mem (by repeat (first | exact WRowsIn.here | exact WRowsIn.last | apply WRowsIn.there | apply WRowsIn.thereS)) _ (by omega))) rfl rfl rfl) (.cons (rv_tmp rfl (by nofun)) .nil)) (by nofun) (fun w1 hw => ?_)
        first
          | (have hs9 := merge_yes hva hvb hm
             rw [mergeX_yes hs9, mergeW_yes hs9, mergeG_yes hs9, hs9]
             refine ⟨(((a25, c25), catF xss.length f18 f20), (a30, c30), (a35, c35)), by rw [List.length_append, List.length_append, List.length_append] <;> rfl, ?_⟩
             dsimp only
             rw [← hd_append, ← rents_append, ← fl_append, ← fl_append]
             exact (hw.pick (by apply Pick.five; all_goals (repeat (first | exact Rem.here | exact Rem.all | exact Rem.hereS | apply Rem.there | apply Rem.thereS)))).outs (List.Sublist.refl _))
          | (have hs9 : mergeOk xss yss ws gs vs hs = false := by first | exact merge_no3 hm | exact merge_no1 (by assumption) | exact merge_no2 (by assumption)
             rw [mergeX_no hs9, mergeW_no hs9, mergeG_no hs9, hs9]
             exact ⟨(((none, 0), fun _ => (none, 0)), (none, 0), (none, 0)), rfl, hw.below, by simp [fl, hd, rents, Ent.at], by simp [fl, hd, rents, Ent.apart]⟩)

end Go.Proofs.Ytfignpiphihgfaa

