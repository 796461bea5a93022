/- Packing: the bytes, the text. -/
import Derived.Test.YtacjcomjnabmhaaPackB
namespace Go.Proofs.Ytacjcomjnabmhaa
open Go.RowKit

/-! ### bytes -/
def w8 (i : Int) : Int := IntKind.u8.wrap i
theorem w8_mod (i : Int) : w8 i = i % 256 := by
  unfold w8 IntKind.wrap
  simp [IntKind.signed, IntKind.bits]
theorem and255 (q : Int) : IntKind.i64.wrap (((q % 2 ^ IntKind.i64.bits).toNat &&& ((255 : Int) % 2 ^ IntKind.i64.bits).toNat : Nat) : Int) = q % 256 := by
  have e1 : ((255 : Int) % 2 ^ IntKind.i64.bits).toNat = 2 ^ 8 - 1 := by decide
  have e2 : (2 : Int) ^ IntKind.i64.bits = 18446744073709551616 := by decide
  rw [e1, Nat.and_two_pow_sub_one_eq_mod, e2]
  have e3 : (((q % 18446744073709551616).toNat % 2 ^ 8 : Nat) : Int) = q % 256 := by
    rw [show (2 : Nat) ^ 8 = 256 from rfl]; omega
  rw [e3]
  exact wrap_in (by omega)
theorem w8_255 (q : Int) : w8 (q % 256) = w8 q := by rw [w8_mod, w8_mod]; omega
theorem shr8 (x k : Nat) (b : Nat) (hb : b ≤ 64) (hk : k = x / 2 ^ b) : ((x : Nat) : Int).fdiv (2 ^ (min b IntKind.i64.bits)) = (k : Int) := by
  subst hk
  rw [show IntKind.i64.bits = 64 from rfl, Nat.min_eq_left hb, Int.fdiv_eq_ediv_of_nonneg _ (by exact_mod_cast Nat.zero_le _)]
  norm_cast
def four (x : Nat) : List Int := [w8 (x : Int), w8 ((x / 256 : Nat) : Int), w8 ((x / 65536 : Nat) : Int), w8 ((x / 16777216 : Nat) : Int)]
def fourK (x k : Nat) : List Int := (List.range k).map fun i => w8 ((x / 256 ^ i : Nat) : Int)
theorem fourK_length (x k : Nat) : (fourK x k).length = k := by simp [fourK]
theorem fourK_succ (x k : Nat) : fourK x k ++ [w8 ((x / 256 ^ k : Nat) : Int)] = fourK x (k + 1) := by unfold fourK; rw [List.range_succ]; simp
theorem fourK_all (x : Nat) : fourK x 4 = four x := by
  unfold fourK four
  simp [List.range_succ]
theorem four_next (x k : Nat) : x / 256 ^ (k + 1) = x / 256 ^ k / 2 ^ 8 := by rw [Nat.pow_succ, Nat.div_div_eq_div_mul]
theorem bl_snoc (bs : List Int) (x k : Nat) : bl (bs ++ fourK x k) ++ [.int .u8 (w8 ((x / 256 ^ k : Nat) : Int))] = bl (bs ++ fourK x (k + 1)) := by
  rw [← fourK_succ, ← List.append_assoc]; simp [bl]

/-! ### the text of a mesh -/
def num (vs : List V3) (k : Nat) : Nat := if k % 3 = 0 then (vs.getD (k / 3) z3).1 else if k % 3 = 1 then (vs.getD (k / 3) z3).2.1 else (vs.getD (k / 3) z3).2.2
def scU (vs : List V3) : Nat → Nat
  | 0 => 0
  | k + 1 => scN (scU vs k) (num vs k)
def allF (vs : List V3) : Nat → Bool
  | 0 => true
  | k + 1 => allF vs k && fin (num vs k)
def qI (s x : Nat) : Int := (floatToIntVal .f64 (qf s x) .i64).getD 0
def qz (s x : Nat) : Int := if fcmp .gtr .f32 s 0 then qI s x else 0
def bodyU (vs : List V3) (s : Nat) : Nat → List Int
  | 0 => []
  | k + 1 => bodyU vs s k ++ [w8 (qz s (num vs k)), w8 ((qz s (num vs k)).fdiv 256)]
def topL (f : V3) (st : Nat) (wi hi de : Int) (s : Nat) : List Int := [77, 83, 72, 49] ++ [w8 wi, w8 hi, w8 de] ++ four f.1 ++ four f.2.1 ++ four f.2.2 ++ four st ++ four s
def pkL (f : V3) (st : Nat) (wi hi de : Int) (vs : List V3) : List Int := topL f st wi hi de (scU vs (vs.length * 3)) ++ bodyU vs (scU vs (vs.length * 3)) (vs.length * 3)
section
variable {vs : List V3} {k j s : Nat}
theorem num_0 (i : Nat) : num vs (i * 3) = (vs.getD i z3).1 := by unfold num; rw [if_pos (by omega), show i * 3 / 3 = i by omega]
theorem num_1 (i : Nat) : num vs (i * 3 + 1) = (vs.getD i z3).2.1 := by unfold num; rw [if_neg (by omega), if_pos (by omega), show (i * 3 + 1) / 3 = i by omega]
theorem num_2 (i : Nat) : num vs (i * 3 + 2) = (vs.getD i z3).2.2 := by unfold num; rw [if_neg (by omega), if_neg (by omega), show (i * 3 + 2) / 3 = i by omega]
def part3 (v : V3) (j : Nat) : Nat := if j = 0 then v.1 else if j = 1 then v.2.1 else v.2.2
theorem num_part {i j : Nat} (hj : j < 3) : num vs (i * 3 + j) = part3 (vs.getD i z3) j := by
  unfold num part3
  rw [show (i * 3 + j) / 3 = i by omega, show (i * 3 + j) % 3 = j by omega]
theorem nums_get {v : V3} {j : Nat} (hj : j < 3) : [v.1, v.2.1, v.2.2].getD j 0 = part3 v j := by
  have : j = 0 ∨ j = 1 ∨ j = 2 := by omega
  rcases this with rfl | rfl | rfl <;> rfl
theorem allF_pos : allF vs k = true → pos (scU vs k) := by
  induction k with
  | zero => intro _; exact pos_0
  | succ k ih => intro h; rw [allF, Bool.and_eq_true] at h; exact pos_scN (ih h.1) h.2
theorem allF_le : allF vs k = true → ∀ j, j < k → fin (num vs j) = true ∧ units Ieee.single (rng Ieee.single (num vs j)) ≤ units Ieee.single (rng Ieee.single (scU vs k)) := by
  induction k with
  | zero => intro _ j hj; omega
  | succ k ih =>
    intro h j hj
    rw [allF, Bool.and_eq_true] at h
    obtain ⟨l1, l2⟩ := le_scN (allF_pos h.1) h.2
    rcases Nat.lt_or_eq_of_le (Nat.le_of_lt_succ hj) with hj | rfl
    · obtain ⟨g1, g2⟩ := ih h.1 j hj
      exact ⟨g1, Nat.le_trans g2 l1⟩
    · exact ⟨h.2, l2⟩
theorem allF_no : allF vs k = true → fin (num vs k) = false → k < j → allF vs j = false := by
  intro h1 h2 hj
  induction j with
  | zero => omega
  | succ j ih =>
    rw [allF]
    rcases Nat.lt_or_eq_of_le (Nat.le_of_lt_succ hj) with hj | rfl
    · rw [ih hj]; rfl
    · rw [h2, Bool.and_false]
theorem pos_gtr (h : pos s) : fcmp .gtr .f32 s 0 = decide (rng Ieee.single s ≠ 0) := by
  rw [gtr_pos h.1 zero0.2, zero0.1, sval_pos h]
  have := units_zero Ieee.single (r := rng Ieee.single s)
  by_cases h0 : rng Ieee.single s = 0
  · rw [decide_eq_false (by rw [this.2 h0]; decide), decide_eq_false (by simpa using h0)]
  · rw [decide_eq_true h0, decide_eq_true (by
      have h1 : units Ieee.single (rng Ieee.single s) ≠ 0 := fun h => h0 (this.1 h)
      omega)]
theorem pos_neq (h : pos s) : fcmp .neq .f32 s 0 = fcmp .gtr .f32 s 0 := by
  rw [gtr_pos h.1 zero0.2, zero0.1, sval_pos h]
  unfold fcmp
  simp only
  rw [order_number (k := .f32) h.1 zero0.2]
  have e : sval FloatKind.f32.format s = (units Ieee.single (rng Ieee.single s) : Int) := sval_pos h
  rw [e, show sval FloatKind.f32.format 0 = 0 from zero0.1]
  by_cases h0 : (0 : Int) < units Ieee.single (rng Ieee.single s)
  · rw [Int.compare_eq_gt.2 h0, decide_eq_true h0]; rfl
  · rw [compare_eq.2 (by omega), decide_eq_false h0]; rfl
theorem qI_is (h : allF vs k = true) (hg : fcmp .gtr .f32 (scU vs k) 0 = true) (hj : j < k) : floatToIntVal .f64 (qf (scU vs k) (num vs j)) .i64 = some (qI (scU vs k) (num vs j)) := by
  have hp := allF_pos h
  rw [pos_gtr hp, decide_eq_true_eq] at hg
  obtain ⟨g1, g2⟩ := allF_le h j hj
  obtain ⟨i, hi⟩ := qf_int (fin_rng g1) hp.1 hg g2
  unfold qI
  rw [hi]; rfl
theorem bodyU_length (s k : Nat) : (bodyU vs s k).length = k * 2 := by
  induction k with
  | zero => rfl
  | succ k ih => rw [bodyU, List.length_append, ih]; simp; omega
end
theorem topL_length (f : V3) (st : Nat) (wi hi de : Int) (s : Nat) : (topL f st wi hi de s).length = 27 := rfl
def pkOk (f : V3) (st : Nat) (wi hi de : Int) (vs : List V3) : Bool := meshOk f st wi hi de vs.length && allF vs (vs.length * 3)
def pkT (f : V3) (st : Nat) (wi hi de : Int) (vs : List V3) : ByteArray := if pkOk f st wi hi de vs then stb (pkL f st wi hi de vs) else ⟨#[]⟩
section
variable {f : V3} {st : Nat} {wi hi de : Int} {vs : List V3}
theorem pk_yes (h1 : meshOk f st wi hi de vs.length = true) (h2 : allF vs (vs.length * 3) = true) : pkOk f st wi hi de vs = true := by unfold pkOk; rw [h1, h2]; rfl
theorem pk_no1 (h1 : meshOk f st wi hi de vs.length = false) : pkOk f st wi hi de vs = false := by unfold pkOk; rw [h1]; rfl
theorem pk_no2 (h2 : allF vs (vs.length * 3) = false) : pkOk f st wi hi de vs = false := by unfold pkOk; rw [h2, Bool.and_false]
theorem pkT_yes (h : pkOk f st wi hi de vs = true) : pkT f st wi hi de vs = stb (pkL f st wi hi de vs) := by unfold pkT; rw [h]; rfl
theorem pkT_no (h : pkOk f st wi hi de vs = false) : pkT f st wi hi de vs = ⟨#[]⟩ := by unfold pkT; rw [h]; rfl
end
/-! ### words for the walks -/
section
variable {vs : List V3} {k i j p s : Nat}
theorem num_get (hj : j < 3) : num vs (i * 3 + j) = [(vs.getD i z3).1, (vs.getD i z3).2.1, (vs.getD i z3).2.2].getD j 0 := by rw [num_part hj, nums_get hj]
theorem can_part {v : V3} (h : Can3 v) : Can .f32 (part3 v j) := by unfold part3; split; exact h.1; split; exact h.2.1; exact h.2.2
theorem scU_n1 (hk : num vs k = p) (hc : Can .f32 p) (hf : fin p = true) (h1 : fcmp .lss .f32 p 0 = true) (h2 : fcmp .gtr .f32 (fneg .f32 p) (scU vs k) = true) : fneg .f32 p = scU vs (k + 1) := by
  rw [scS_neg hc hf h1] at h2 ⊢
  rw [scU, hk, scN, if_pos h2]
theorem scU_n0 (hk : num vs k = p) (hc : Can .f32 p) (hf : fin p = true) (h1 : fcmp .lss .f32 p 0 = true) (h2 : fcmp .gtr .f32 (fneg .f32 p) (scU vs k) = false) : scU vs k = scU vs (k + 1) := by
  rw [scS_neg hc hf h1] at h2
  rw [scU, hk, scN, if_neg (by rw [h2]; decide)]
theorem scU_p1 (ha : allF vs k = true) (hk : num vs k = p) (hc : Can .f32 p) (hf : fin p = true) (h1 : fcmp .lss .f32 p 0 = false) (h2 : fcmp .gtr .f32 p (scU vs k) = true) : p = scU vs (k + 1) := by
  obtain ⟨g1, g2⟩ := scS_pos hc (allF_pos ha) hf h1
  have g3 := g2 h2
  rw [scU, hk, scN, if_pos (g1 ▸ h2)]; exact g3
theorem scU_p0 (ha : allF vs k = true) (hk : num vs k = p) (hc : Can .f32 p) (hf : fin p = true) (h1 : fcmp .lss .f32 p 0 = false) (h2 : fcmp .gtr .f32 p (scU vs k) = false) : scU vs k = scU vs (k + 1) := by
  obtain ⟨g1, _⟩ := scS_pos hc (allF_pos ha) hf h1
  rw [scU, hk, scN, if_neg (by rw [← g1, h2]; decide)]
theorem allF_0 : allF vs 0 = true := rfl
theorem scU_0 : scU vs 0 = 0 := rfl
theorem body_0 : bodyU vs s 0 = [] := rfl
theorem scU_m (hk : num vs k = p) : scN (scU vs k) p = scU vs (k + 1) := by rw [scU, hk]
theorem allF_s (ha : allF vs k = true) (hk : num vs k = p) (hf : fin p = true) : allF vs (k + 1) = true := by rw [allF, ha, hk, hf]; rfl
theorem qI_isX {N X : Nat} (h : allF vs N = true) (hg : fcmp .gtr .f32 (scU vs N) 0 = true) (hk : num vs k = X) (hj : k < N) : floatToIntVal .f64 (qf (scU vs N) X) .i64 = some (qI (scU vs N) X) := by rw [← hk]; exact qI_is h hg hj
theorem qz_y {x : Nat} (h : fcmp .gtr .f32 s 0 = true) : qz s x = qI s x := by unfold qz; rw [if_pos h]
theorem qz_n {x : Nat} (h : fcmp .gtr .f32 s 0 = false) : qz s x = 0 := by unfold qz; rw [if_neg (by rw [h]; decide)]
theorem body_s {bs : List Int} {x : Nat} {q q2 : Int} (hk : num vs k = x) (hq : qz s x = q) (h2 : q2 = q.fdiv 256) : bl (bs ++ bodyU vs s k) ++ [.int .u8 (w8 q), .int .u8 (w8 q2)] = bl (bs ++ bodyU vs s (k + 1)) := by
  subst h2
  rw [bodyU, hk, hq, ← List.append_assoc]; simp [bl]
end
def topK (f : V3) (st s k : Nat) : List Int := ([f.1, f.2.1, f.2.2, st, s].take k).flatMap four
def hdr (wi hi de : Int) : List Int := [77, 83, 72, 49] ++ [w8 wi, w8 hi, w8 de]
theorem topK_succ {f : V3} {st s k : Nat} (h : k < 5) : topK f st s (k + 1) = topK f st s k ++ four ([f.1, f.2.1, f.2.2, st, s].getD k 0) := by
  unfold topK
  have : k = 0 ∨ k = 1 ∨ k = 2 ∨ k = 3 ∨ k = 4 := by omega
  rcases this with rfl | rfl | rfl | rfl | rfl <;> simp
theorem topK_all {f : V3} {st s : Nat} {wi hi de : Int} : hdr wi hi de ++ topK f st s 5 = topL f st wi hi de s := by simp [hdr, topK, topL]
theorem topK_0 {f : V3} {st s : Nat} {wi hi de : Int} : hdr wi hi de ++ topK f st s 0 = [77, 83, 72, 49] ++ [w8 wi, w8 hi, w8 de] := rfl
theorem topK_length {f : V3} {st s k : Nat} (h : k ≤ 5) : (topK f st s k).length = k * 4 := by
  have : k = 0 ∨ k = 1 ∨ k = 2 ∨ k = 3 ∨ k = 4 ∨ k = 5 := by omega
  rcases this with rfl | rfl | rfl | rfl | rfl | rfl <;> rfl
theorem Pick.p3 {O1 O2 O F : List Ent} {e1 e2 e3 : Ent} (h1 : Rem O [e1] O1) (h2 : Rem O1 [e2] O2) (h3 : Rem O2 [e3] F) : Pick O [e1, e2, e3] F := Pick.take h1 (Pick.take h2 (Pick.take h3 .nil))
theorem can_scU {vs : List V3} : ∀ k, Can .f32 (scU vs k)
  | 0 => (show Can .f32 0 from ⟨by decide, by decide⟩)
  | k + 1 => by
    have ih := can_scU (vs := vs) k
    rw [scU, scN]; split
    · exact can_fabs _ _
    · exact ih
theorem can_top {f : V3} {st k N : Nat} {vs : List V3} (hf : Can3 f) (hs : Can .f32 st) (h : k < 5) : Can .f32 ([f.1, f.2.1, f.2.2, st, scU vs N].getD k 0) := by
  have : k = 0 ∨ k = 1 ∨ k = 2 ∨ k = 3 ∨ k = 4 := by omega
  rcases this with rfl | rfl | rfl | rfl | rfl
  · exact hf.1
  · exact hf.2.1
  · exact hf.2.2
  · exact hs
  · exact can_scU N
theorem topK_le {f : V3} {st s k : Nat} {wi hi de : Int} (h : k ≤ 5) : (hdr wi hi de ++ topK f st s k).length ≤ 100000 := by
  rw [List.length_append, topK_length h]; simp [hdr]; omega
theorem bd_len {f : V3} {st s k : Nat} {wi hi de : Int} {vs : List V3} : (topL f st wi hi de s ++ bodyU vs s k).length = 27 + k * 2 := by rw [List.length_append, topL_length, bodyU_length]
theorem part_top {f : V3} {st s k : Nat} (h : k < 3) : part3 f k = [f.1, f.2.1, f.2.2, st, s].getD k 0 := by
  have : k = 0 ∨ k = 1 ∨ k = 2 := by omega
  rcases this with rfl | rfl | rfl <;> rfl
theorem top3 {f : V3} {st s : Nat} {wi hi de : Int} : hdr wi hi de ++ topK f st s 3 ++ four st ++ four s = topL f st wi hi de s := by simp [hdr, topK, topL]
theorem pk_val {f : V3} {st : Nat} {wi hi de : Int} {vs : List V3} (h : meshOk f st wi hi de vs.length = true) : (if allF vs (vs.length * 3) then stb (pkL f st wi hi de vs) else ⟨#[]⟩) = pkT f st wi hi de vs ∧ allF vs (vs.length * 3) = pkOk f st wi hi de vs := by
  have e : allF vs (vs.length * 3) = pkOk f st wi hi de vs := by unfold pkOk; rw [h]; rfl
  refine ⟨?_, e⟩
  unfold pkT
  rw [← e]
end Go.Proofs.Ytacjcomjnabmhaa
