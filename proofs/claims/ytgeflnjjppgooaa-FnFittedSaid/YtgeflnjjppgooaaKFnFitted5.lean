/- Own texts of this claim, merged: QIn, Square, Ridge, Block, Own, QMesh, QSlice, Fill, QFill, QR8, Dy, Rt, QWGs, QWIn. -/
import Derived.Deep.Slices
import Derived.KernelRfl
import Derived.Test.YtgeflnjjppgooaaKFnFitted4
namespace Go.Proofs.Ytgeflnjjppgooaa.Q
open Go.RowKit
section
variable {P : Program} {E : Env} {o : Oper}
theorem yr_minI [PhC] {x y : Operand} {t s : TypeId} {k : IntKind} {a b : Int} (ho : o.op = .call ⟨.builtin .min, #[x, y], #[t, s]⟩) (hx : E.opd x = some (.int k a)) (hy : E.opd y = some (.int k b)) : YR P E o (.int k (min a b)) := yr_of fun ρ w hE => by
  have h1 := cn_int (hE.get (x := x) (by simp [ho, Op.operands, Call.operands]) hx)
  have h2 := cn_int (hE.get (x := y) (by simp [ho, Op.operands, Call.operands]) hy)
  have e : (if b < a then b else a) = min a b := by rw [Int.min_def]; split <;> split <;> omega
  exact ⟨.int k (min a b), by simp [execOp, ho, h1, h2, resolve, invoke, builtin, Builtin.min_, Builtin.min2, e], rfl⟩
end
end Go.Proofs.Ytgeflnjjppgooaa.Q

namespace Go.Proofs.Ytgeflnjjppgooaa
def dotK (xs ys : List Nat) : Nat → Nat
  | 0 => 0
  | k + 1 => fop .add .f32 (dotK xs ys k) (fop .mul .f32 (xs.getD k 0) (ys.getD k 0))
def missAt (xss : List (List Nat)) (ws x : List Nat) (i : Nat) : Nat := fop .sub .f32 (ws.getD i 0) (dotK (xss.getD i []) x x.length)
def missL (xss : List (List Nat)) (ws x : List Nat) (k : Nat) : List Nat := (List.range k).map (missAt xss ws x)
theorem missL_length (xss : List (List Nat)) (ws x : List Nat) (k : Nat) : (missL xss ws x k).length = k := by simp [missL]
theorem missL_succ (xss : List (List Nat)) (ws x : List Nat) (k : Nat) : missL xss ws x k ++ [missAt xss ws x k] = missL xss ws x (k + 1) := by simp [missL, List.range_succ]
theorem missL_get (xss : List (List Nat)) (ws x : List Nat) {k m : Nat} (h : k < m) : (missL xss ws x m).getD k 0 = missAt xss ws x k := getD_range m _ h
def sqK (xss : List (List Nat)) (ws gs x : List Nat) : Nat → Nat
  | 0 => 0
  | k + 1 => fop .add .f32 (sqK xss ws gs x k) (fop .mul .f32 (fop .mul .f32 (gs.getD k 0) (missAt xss ws x k)) (missAt xss ws x k))
noncomputable def fitsD (xss : List (List Nat)) (ws gs x : List Nat) : Bool := validD xss ws gs && decide (x.length = (xss.getD 0 []).length)
theorem fits_is {xss : List (List Nat)} {ws gs x : List Nat} (h : fitsD xss ws gs x = true) : ValidP xss ws gs ∧ x.length = (xss.getD 0 []).length ∧ ∀ i, i < xss.length → (xss.getD i []).length = x.length := by
  unfold fitsD at h
  simp only [Bool.and_eq_true, decide_eq_true_eq] at h
  have hv := valid_is h.1
  exact ⟨hv, h.2, fun i hi => by rw [h.2]; exact (hv.2.2.2.2.2.1 i hi).1⟩
end Go.Proofs.Ytgeflnjjppgooaa

namespace Go.Proofs.Ytgeflnjjppgooaa
noncomputable def ridgeOk (xss : List (List Nat)) (ws gs x : List Nat) (r : Nat) : Bool := fitsD xss ws gs x && least r
noncomputable def ridgeD (xss : List (List Nat)) (ws gs x : List Nat) (r : Nat) : Nat := if ridgeOk xss ws gs x r then fop .add .f32 (sqK xss ws gs x xss.length) (fop .mul .f32 r (dotK x x x.length)) else 0
theorem ridgeD_yes {xss : List (List Nat)} {ws gs x : List Nat} {r : Nat} (h : ridgeOk xss ws gs x r = true) : ridgeD xss ws gs x r = fop .add .f32 (sqK xss ws gs x xss.length) (fop .mul .f32 r (dotK x x x.length)) := by simp [ridgeD, h]
theorem ridgeD_no {xss : List (List Nat)} {ws gs x : List Nat} {r : Nat} (h : ridgeOk xss ws gs x r = false) : ridgeD xss ws gs x r = 0 := by simp [ridgeD, h]
end Go.Proofs.Ytgeflnjjppgooaa

namespace Go.Proofs.Ytgeflnjjppgooaa
open Go.RowKit
theorem idx_inj {n j k j' k' : Nat} (hk : k < n) (hk' : k' < n) (h : j' * n + k' = j * n + k) : j' = j ∧ k' = k := by
  have h1 : (j' * n + k') / n = j' := by
    rw [Nat.add_comm, Nat.add_mul_div_right _ _ (by omega), Nat.div_eq_of_lt hk', Nat.zero_add]
  have h2 : (j * n + k) / n = j := by
    rw [Nat.add_comm, Nat.add_mul_div_right _ _ (by omega), Nat.div_eq_of_lt hk, Nat.zero_add]
  rw [h, h2] at h1
  subst h1
  exact ⟨rfl, by omega⟩
theorem ext_square {n : Nat} {xs : List Nat} {f : Nat → Nat → Nat} (hl : xs.length = n * n) (h : ∀ j k, j < n → k < n → xs.getD (j * n + k) 0 = f j k) : xs = (List.range (n * n)).map fun t => f (t / n) (t % n) := by
  refine ext_getD (by simp [hl]) fun i hi => ?_
  rw [hl] at hi
  rw [getD_range _ _ hi]
  have hn : 0 < n := by
    rcases Nat.eq_zero_or_pos n with h0 | h0
    · subst h0; simp at hi
    · exact h0
  have := h (i / n) (i % n) ((Nat.div_lt_iff_lt_mul hn).2 hi) (Nat.mod_lt _ hn)
  rw [← this, Nat.mul_comm, Nat.div_add_mod]
def rowK (xss : List (List Nat)) (i j : Nat) : Nat := (xss.getD i []).getD j 0
def blkA (xss : List (List Nat)) (gs : List Nat) (fr j k : Nat) : Nat → Nat
  | 0 => 0
  | i + 1 => fop .add .f32 (blkA xss gs fr j k i) (fop .mul .f32 (fop .mul .f32 (gs.getD (fr + i) 0) ((xss.getD (fr + i) []).getD j 0)) ((xss.getD (fr + i) []).getD k 0))
def blkB (xss : List (List Nat)) (ws gs : List Nat) (fr j : Nat) : Nat → Nat
  | 0 => 0
  | i + 1 => fop .add .f32 (blkB xss ws gs fr j i) (fop .mul .f32 (fop .mul .f32 (gs.getD (fr + i) 0) ((xss.getD (fr + i) []).getD j 0)) (ws.getD (fr + i) 0))
def blockA (xss : List (List Nat)) (gs : List Nat) (fr cnt n : Nat) : List Nat := (List.range (n * n)).map fun t => blkA xss gs fr (t / n) (t % n) cnt
def blockB (xss : List (List Nat)) (ws gs : List Nat) (fr cnt n : Nat) : List Nat := (List.range n).map fun j => blkB xss ws gs fr j cnt
theorem blockA_length (xss : List (List Nat)) (gs : List Nat) (fr cnt n : Nat) : (blockA xss gs fr cnt n).length = n * n := by simp [blockA]
theorem blockB_length (xss : List (List Nat)) (ws gs : List Nat) (fr cnt n : Nat) : (blockB xss ws gs fr cnt n).length = n := by simp [blockB]
theorem up_or {xss : List (List Nat)} {gs A : List Nat} {fr n i j : Nat} (h : ∀ j1 k1, j1 < n → k1 < n → A.getD (j1 * n + k1) 0 = blkA xss gs fr j1 k1 (if j1 < j then i + 1 else i)) :
    ∀ j1 k1, j1 < n → k1 < n → A.getD (j1 * n + k1) 0 = blkA xss gs fr j1 k1 (if j1 < j ∨ (j1 = j ∧ k1 < 0) then i + 1 else i) := by
  intro j1 k1 h1 h2
  rw [h j1 k1 h1 h2]
  congr 1
  by_cases hc : j1 < j
  · rw [if_pos hc, if_pos (by omega)]
  · rw [if_neg hc, if_neg (by omega)]
theorem or_up {xss : List (List Nat)} {gs A : List Nat} {fr n i j : Nat} (h : ∀ j1 k1, j1 < n → k1 < n → A.getD (j1 * n + k1) 0 = blkA xss gs fr j1 k1 (if j1 < j ∨ (j1 = j ∧ k1 < n) then i + 1 else i)) :
    ∀ j1 k1, j1 < n → k1 < n → A.getD (j1 * n + k1) 0 = blkA xss gs fr j1 k1 (if j1 < j + 1 then i + 1 else i) := by
  intro j1 k1 h1 h2
  rw [h j1 k1 h1 h2]
  congr 1
  by_cases hc : j1 < j + 1
  · rw [if_pos hc, if_pos (by omega)]
  · rw [if_neg hc, if_neg (by omega)]
/-- A round of the innermost loop: one number more. -/
theorem blkA_step {xss : List (List Nat)} {gs A : List Nat} {fr n i j k : Nat} (hl : A.length = n * n) (hj : j < n) (hk : k < n)
    (h : ∀ j' k', j' < n → k' < n → A.getD (j' * n + k') 0 = blkA xss gs fr j' k' (if j' < j ∨ (j' = j ∧ k' < k) then i + 1 else i)) :
    ∀ j' k', j' < n → k' < n → (A.set (j * n + k) (fop .add .f32 (A.getD (j * n + k) 0) (fop .mul .f32 (fop .mul .f32 (gs.getD (fr + i) 0) ((xss.getD (fr + i) []).getD j 0)) ((xss.getD (fr + i) []).getD k 0)))).getD (j' * n + k') 0 =
      blkA xss gs fr j' k' (if j' < j ∨ (j' = j ∧ k' < k + 1) then i + 1 else i) := by
  intro j' k' hj' hk'
  rw [gset (by rw [hl]; exact idx_lt hj hk)]
  split
  · rename_i he
    obtain ⟨rfl, rfl⟩ := idx_inj hk hk' he
    rw [h j' k' hj' hk', if_neg (by omega), if_pos (by omega)]
    rfl
  · rename_i he
    have hne : ¬ (j' = j ∧ k' = k) := by rintro ⟨rfl, rfl⟩; exact he rfl
    rw [h j' k' hj' hk']
    congr 1
    by_cases hc : j' < j ∨ (j' = j ∧ k' < k)
    · rw [if_pos hc, if_pos (by omega)]
    · rw [if_neg hc, if_neg (by omega)]
theorem blkB_step {xss : List (List Nat)} {ws gs B : List Nat} {fr n i j : Nat} (hl : B.length = n) (hj : j < n)
    (h : ∀ j', j' < n → B.getD j' 0 = blkB xss ws gs fr j' (if j' < j then i + 1 else i)) :
    ∀ j', j' < n → (B.set j (fop .add .f32 (B.getD j 0) (fop .mul .f32 (fop .mul .f32 (gs.getD (fr + i) 0) ((xss.getD (fr + i) []).getD j 0)) (ws.getD (fr + i) 0)))).getD j' 0 = blkB xss ws gs fr j' (if j' < j + 1 then i + 1 else i) := by
  intro j' hj'
  rw [gset (by omega)]
  split
  · rename_i he
    subst he
    rw [h j' hj', if_neg (by omega), if_pos (by omega)]
    rfl
  · rw [h j' hj']
    congr 1
    by_cases hc : j' < j
    · rw [if_pos hc, if_pos (by omega)]
    · rw [if_neg hc, if_neg (by omega)]
theorem replicate_getD (m i : Nat) : (List.replicate m 0).getD i 0 = 0 := by
  rw [List.getD]
  rcases Nat.lt_or_ge i m with h | h
  · simp [h]
  · simp [h]
def blocksN (m : Nat) : Nat := (m + 7) / 8
theorem blocksN_le (m : Nat) : blocksN m ≤ m + 7 := by unfold blocksN; omega
noncomputable def blockOk (xss : List (List Nat)) (ws gs : List Nat) (b : Int) : Bool := validD xss ws gs && decide (0 ≤ b ∧ b < blocksN xss.length)
noncomputable def blockAD (xss : List (List Nat)) (ws gs : List Nat) (b : Int) : List Nat := if blockOk xss ws gs b then blockA xss gs (b.toNat * 8) (min 8 (xss.length - b.toNat * 8)) (xss.getD 0 []).length else []
noncomputable def blockBD (xss : List (List Nat)) (ws gs : List Nat) (b : Int) : List Nat := if blockOk xss ws gs b then blockB xss ws gs (b.toNat * 8) (min 8 (xss.length - b.toNat * 8)) (xss.getD 0 []).length else []
theorem block_no {xss : List (List Nat)} {ws gs : List Nat} {b : Int} (h : validD xss ws gs = false) : blockOk xss ws gs b = false := by simp [blockOk, h]
theorem block_no2 {xss : List (List Nat)} {ws gs : List Nat} {b : Int} (h : decide (0 ≤ b ∧ b ≤ (blocksN xss.length : Int) - 1) = false) : blockOk xss ws gs b = false := by
  have h2 := of_decide_eq_false h
  unfold blockOk
  rw [decide_eq_false (by omega), Bool.and_false]
theorem block_yes {xss : List (List Nat)} {ws gs : List Nat} {b : Int} (h : validD xss ws gs = true) (h2 : decide (0 ≤ b ∧ b ≤ (blocksN xss.length : Int) - 1) = true) : blockOk xss ws gs b = true := by
  have h3 := of_decide_eq_true h2
  unfold blockOk
  rw [h, decide_eq_true (by omega), Bool.true_and]
theorem block_is {xss : List (List Nat)} {ws gs : List Nat} {b : Int} (h : blockOk xss ws gs b = true) : ValidP xss ws gs ∧ 0 ≤ b ∧ b * 8 ≤ xss.length ∧ b.toNat * 8 ≤ xss.length := by
  unfold blockOk at h
  rw [Bool.and_eq_true, decide_eq_true_eq] at h
  have : blocksN xss.length * 8 ≤ xss.length + 7 := by unfold blocksN; omega
  exact ⟨valid_is h.1, h.2.1, by omega, by omega⟩
theorem blockAD_yes {xss : List (List Nat)} {ws gs : List Nat} {b : Int} (h : blockOk xss ws gs b = true) : blockAD xss ws gs b = blockA xss gs (b.toNat * 8) (min 8 (xss.length - b.toNat * 8)) (xss.getD 0 []).length := by simp [blockAD, h]
theorem blockBD_yes {xss : List (List Nat)} {ws gs : List Nat} {b : Int} (h : blockOk xss ws gs b = true) : blockBD xss ws gs b = blockB xss ws gs (b.toNat * 8) (min 8 (xss.length - b.toNat * 8)) (xss.getD 0 []).length := by simp [blockBD, h]
theorem blockAD_no {xss : List (List Nat)} {ws gs : List Nat} {b : Int} (h : blockOk xss ws gs b = false) : blockAD xss ws gs b = [] := by simp [blockAD, h]
theorem blockBD_no {xss : List (List Nat)} {ws gs : List Nat} {b : Int} (h : blockOk xss ws gs b = false) : blockBD xss ws gs b = [] := by simp [blockBD, h]
end Go.Proofs.Ytgeflnjjppgooaa

namespace Go.Proofs.Ytgeflnjjppgooaa
open Go.RowKit
theorem Pick.five {O O1 O2 O3 O4 F R1 R2 : List Ent} {e1 e2 e3 : Ent} (h1 : Rem O [e1] O1) (h2 : Rem O1 [e2] O2) (h3 : Rem O2 [e3] O3) (h4 : Rem O3 R1 O4) (h5 : Rem O4 R2 F) : Pick O (e1 :: e2 :: e3 :: (R1 ++ R2)) F :=
  Pick.take h1 (Pick.take h2 (Pick.take h3 (Pick.take h4 (by simpa using Pick.take h5 .nil))))
section
variable {P : Program} {w0 : World} {O : List Ent} {E : Env} {o : Oper}
end
theorem sumK_le {xss : List (List Nat)} {b : Nat} (h : ∀ i, i < xss.length → (xss.getD i []).length ≤ b) : ∀ k, k ≤ xss.length → sumK xss k ≤ b * k
  | 0, _ => by rw [sumK_zero]; exact Nat.zero_le _
  | k + 1, hk => by
    have ih := sumK_le h k (by omega)
    have := h k (by omega)
    rw [sumK_succ (by omega), Nat.mul_succ]
    omega
theorem valid_small {xss : List (List Nat)} {ws gs : List Nat} (h : ValidP xss ws gs) : bulk xss + ws.length + gs.length ≤ 528 := by
  obtain ⟨v1, v2, v3, v4, v5, v6, v7, v8⟩ := h
  have := sumK_le (b := 8) (fun i hi => by rw [(v6 i hi).1]; exact v8) xss.length (Nat.le_refl _)
  unfold bulk
  omega
section
variable {xss yss : List (List Nat)} {ws gs vs hs : List Nat}
end
section
variable {xss : List (List Nat)} {ws gs : List Nat} {j : Int} {by' : Nat}
end
end Go.Proofs.Ytgeflnjjppgooaa

namespace Go.Proofs.Ytgeflnjjppgooaa.Q
open Go.RowKit
section
variable {wi hi de : Int} {f : V3} {st n : Nat}
end
section
variable {W H D x y z j : Nat}
end
section
variable {P : Program} {n : Nat} {w0 : World} {O : List Ent} {E : Env} {o : Oper}
theorem yr_addN [PhC] {t ty : TypeId} {x y : Operand} {a b : Int} (r : Nat) (ho : o.op = .binOp .add t x y ty) (hx : E.opd x = some (.int .i64 a)) (hy : E.opd y = some (.int .i64 b)) (h : a + b = (r : Int)) (hb : r ≤ 9223372036854775807) : YR P E o (.int .i64 (r : Int)) := by
  rw [← h]
  exact yr_int ho hx hy (.inl ⟨rfl, wrap_in (by omega)⟩)
end
section
variable {vs : List V3} {W H D tw x y z j k a b : Nat}
end
section
variable {f : V3} {st : Nat} {wi hi de : Int} {vs : List V3}
end
end Go.Proofs.Ytgeflnjjppgooaa.Q

namespace Go.Proofs.Ytgeflnjjppgooaa.Q
open Go.RowKit
section
variable {P : Program} {n : Nat} {w0 : World} {O : List Ent} {E : Env} {o : Oper}
theorem yr_bits [PhC] {op : BinOp} {t ty : TypeId} {x y : Operand} {k : IntKind} {a b r : Int} (ho : o.op = .binOp op t x y ty) (hx : E.opd x = some (.int k a)) (hy : E.opd y = some (.int k b))
    (hr : (op = .and ∧ k.wrap (((a % 2 ^ k.bits).toNat &&& (b % 2 ^ k.bits).toNat : Nat) : Int) = r) ∨ (op = .or ∧ k.wrap (((a % 2 ^ k.bits).toNat ||| (b % 2 ^ k.bits).toNat : Nat) : Int) = r)) : YR P E o (.int k r) := yr_of fun ρ w hE => by
  have h1 := cn_int (hE.get (x := x) (by simp [ho, Op.operands]) hx)
  have h2 := cn_int (hE.get (x := y) (by simp [ho, Op.operands]) hy)
  refine ⟨.int k r, ?_, rfl⟩
  rcases hr with ⟨rfl, hr⟩ | ⟨rfl, hr⟩ <;> simp [execOp, ho, h1, h2, eqGuard, binOp, Op.intBits, hr]
theorem yr_shr [PhC] {t ty : TypeId} {x y : Operand} {k k2 : IntKind} {a r : Int} {b : Nat} (ho : o.op = .binOp .shr t x y ty) (hx : E.opd x = some (.int k a)) (hy : E.opd y = some (.int k2 (b : Int)))
    (hr : a.fdiv (2 ^ (min b k.bits)) = r) : YR P E o (.int k r) := yr_of fun ρ w hE => by
  have h1 := cn_int (hE.get (x := x) (by simp [ho, Op.operands]) hx)
  have h2 := cn_int (hE.get (x := y) (by simp [ho, Op.operands]) hy)
  refine ⟨.int k r, ?_, rfl⟩
  have h3 : ¬ ((b : Int) < 0) := by omega
  simp [execOp, ho, h1, h2, eqGuard, binOp, Op.shift, h3, hr]
end
end Go.Proofs.Ytgeflnjjppgooaa.Q

namespace Go.Proofs.Ytgeflnjjppgooaa
open Go.RowKit
section
variable {ws : List Wr} {f : V3} {st W H D x y z k : Nat} {wi hi de : Int}
theorem tmodN (a b : Nat) : ((a : Int)).tmod (b : Int) = ((a % b : Nat) : Int) := (Int.ofNat_tmod _ _).symm
theorem tdivN (a b : Nat) : ((a : Int)).tdiv (b : Int) = ((a / b : Nat) : Int) := (Int.ofNat_tdiv _ _).symm
end
section
variable {P : Program} {E : Env} {o : Oper}
end
section
variable {ws : List Wr} {f : V3} {st W H D : Nat} {wi hi de n : Int}
end
end Go.Proofs.Ytgeflnjjppgooaa

namespace Go.Proofs.Ytgeflnjjppgooaa.Q
open Go.RowKit
section
variable {ws : List Wr} {f : V3} {st W H D x y z k : Nat} {wi hi de : Int}
end
section
variable {P : Program} {E : Env} {o : Oper}
theorem yr_remN [PhC] {t ty : TypeId} {x y : Operand} {p q : Int} (a b : Nat) (ho : o.op = .binOp .rem t x y ty) (hx : E.opd x = some (.int .i64 p)) (hy : E.opd y = some (.int .i64 q)) (hp : p = (a : Int)) (hq : q = (b : Int)) (hb : 0 < b) : YR P E o (.int .i64 ((a % b : Nat) : Int)) := by
  subst hp; subst hq
  have h := yr_rem (P := P) ho hx hy (by omega)
  rwa [tmodN] at h
theorem yr_quoN [PhC] {t ty : TypeId} {x y : Operand} {p q : Int} (a b : Nat) (ho : o.op = .binOp .quo t x y ty) (hx : E.opd x = some (.int .i64 p)) (hy : E.opd y = some (.int .i64 q)) (hp : p = (a : Int)) (hq : q = (b : Int)) (hb : 0 < b) (ha : a ≤ 9223372036854775807) : YR P E o (.int .i64 ((a / b : Nat) : Int)) := by
  subst hp; subst hq
  have h := yr_quo (P := P) ho hx hy (by omega) (wrap_quo (by omega))
  rwa [tdivN] at h
end
section
variable {ws : List Wr} {f : V3} {st W H D : Nat} {wi hi de n : Int}
end
end Go.Proofs.Ytgeflnjjppgooaa.Q

namespace Go.Proofs.Ytgeflnjjppgooaa.Q
open Go.RowKit
section
variable {P : Program} {w0 : World} {E : Env} {o : Oper}
/-- A call in a drawn region: it turns what stands in S alone. -/
theorem yc_callfR [PhC] {S R : List Ent} {args : Array Operand} {ts : Array TypeId} {f : FuncId} {us : List Value} {X : Type} {u : X → Value} {M F0 : List Ent} {M' : X → List Ent} (ho : o.op = .call ⟨.value (.func f), args, ts⟩) (hk : Known P f) (hx : Opds E args.toList us) (hp : Pick S M F0)
    (h : Mut P f us w0 M u M') : YC P w0 (S ++ R) E o u (fun x => (M' x ++ F0) ++ R) := by
  have h9 := yc_callf (P := P) ho hk hx (hp.appR R) h
  simpa only [List.append_assoc] using h9
end
end Go.Proofs.Ytgeflnjjppgooaa.Q

namespace Go.Proofs.Ytgeflnjjppgooaa
open Go.RowKit
/-- how many units 1/128 has -/
def dyU : FloatKind → Nat
  | .f32 => 142
  | .f64 => 1067
/-- The places behind the point. -/
def dyF : FloatKind → Nat
  | .f32 => 23
  | .f64 => 52
theorem binade_is (k : FloatKind) : k.format.binade = 2 ^ dyF k := by cases k <;> decide
theorem dyF_le (k : FloatKind) : 23 ≤ dyF k ∧ dyF k ≤ dyU k := by cases k <;> decide
theorem infRung_is (k : FloatKind) : k.format.infRung = (if k = .f32 then 255 else 2047) * 2 ^ dyF k := by cases k <;> decide
/-- n/128 is a number of the format. -/
theorem dy_rep (k : FloatKind) {n : Nat} (h : n < 2 ^ 24) : ∃ r, r < k.format.infRung ∧ units k.format r = n * 2 ^ dyU k := by
  by_cases h0 : n = 0
  · subst h0
    exact ⟨0, by cases k <;> decide, by rw [(units_zero k.format).2 rfl, Nat.zero_mul]⟩
  · have hl : n.log2 ≤ 23 := by
      have := (Nat.log2_lt h0).2 h
      omega
    obtain ⟨f1, f2⟩ := dyF_le k
    have hb := binade_is k
    generalize hF : dyF k = F at *
    generalize hU : dyU k = U at *
    have h1 := Nat.log2_self_le h0
    have h2 : n < 2 ^ (n.log2 + 1) := Nat.lt_log2_self
    -- the number, shifted to the format's places
    have m1 : 2 ^ F ≤ n * 2 ^ (F - n.log2) := by
      calc 2 ^ F = 2 ^ n.log2 * 2 ^ (F - n.log2) := by rw [← Nat.pow_add]; congr 1; omega
        _ ≤ n * 2 ^ (F - n.log2) := Nat.mul_le_mul_right _ h1
    have m2 : n * 2 ^ (F - n.log2) < 2 ^ F * 2 := by
      calc n * 2 ^ (F - n.log2) < 2 ^ (n.log2 + 1) * 2 ^ (F - n.log2) := Nat.mul_lt_mul_of_pos_right h2 (pow_pos' _)
        _ = 2 ^ F * 2 := by rw [← Nat.pow_add, ← Nat.pow_succ]; congr 1; omega
    generalize hm : n * 2 ^ (F - n.log2) = m at *
    have hp := pow_pos' F
    refine ⟨(U - F + n.log2 + 1) * 2 ^ F + (m - 2 ^ F), ?_, ?_⟩
    · rw [infRung_is, hF]
      have hc : U - F + n.log2 + 2 ≤ (if k = .f32 then 255 else 2047) := by
        cases k
        · simp [dyU, dyF] at hU hF; subst hU; subst hF; simp; omega
        · simp [dyU, dyF] at hU hF; subst hU; subst hF; simp; omega
      have := Nat.mul_le_mul_right (2 ^ F) hc
      have e : (U - F + n.log2 + 2) * 2 ^ F = (U - F + n.log2 + 1) * 2 ^ F + 2 ^ F := by rw [← Nat.succ_mul]
      omega
    · have hr : (U - F + n.log2 + 1) * 2 ^ F ≥ 2 ^ F := Nat.le_mul_of_pos_left _ (by omega)
      unfold units
      rw [hb, if_neg (by omega)]
      have e1 : ((U - F + n.log2 + 1) * 2 ^ F + (m - 2 ^ F)) % 2 ^ F = m - 2 ^ F := by
        rw [Nat.add_comm, Nat.add_mul_mod_self_right, Nat.mod_eq_of_lt (by omega)]
      have e2 : ((U - F + n.log2 + 1) * 2 ^ F + (m - 2 ^ F)) / 2 ^ F = U - F + n.log2 + 1 := by
        rw [Nat.add_comm, Nat.add_mul_div_right _ _ hp, Nat.div_eq_of_lt (by omega), Nat.zero_add]
      rw [e1, e2, show 2 ^ F + (m - 2 ^ F) = m by omega, ← hm, Nat.mul_assoc, ← Nat.pow_add]
      congr 2
      omega
/-- The word x is v/128. -/
def dy (k : FloatKind) (x : Nat) (v : Int) : Prop := x < 2 ^ k.format.width ∧ rng k.format x < k.format.infRung ∧ sval k.format x = v * 2 ^ dyU k
section
variable {k : FloatKind} {x y : Nat} {a b c : Int}
theorem dy_word (s : Bool) {n : Nat} (h : n < 2 ^ 24) {v : Int} (hv : v = if s then -(n : Int) else (n : Int)) : ∃ r, r < k.format.infRung ∧ units k.format r = n * 2 ^ dyU k ∧ dy k (k.format.word s r) v := by
  obtain ⟨r, h1, h2⟩ := dy_rep k h
  obtain ⟨w1, w2⟩ := rng_word k s (Nat.le_of_lt h1)
  refine ⟨r, h1, h2, ?_, by rw [w1]; exact h1, ?_⟩
  · have hw : k.format.infRung < k.format.signWeight := by cases k <;> decide
    rw [width_pos]
    unfold Ieee.Format.word
    split <;> omega
  · unfold sval
    rw [w2, w1, h2, hv]
    cases s <;> simp [Int.neg_mul]
/-- a sum, in units -/
theorem sum_units (hx : rng k.format x < k.format.infRung) (hy : rng k.format y < k.format.infRung) (t : Bool) : ∃ (s : Bool) (M q : Nat), ((k.format.read x).sum (if t then (k.format.read y).opposite else k.format.read y)) = some (.number s M (k.format.leastPlace + (q : Int))) ∧
    M * 2 ^ q = (sval k.format x + (if t then -sval k.format y else sval k.format y)).natAbs ∧ (s = true → sval k.format x + (if t then -sval k.format y else sval k.format y) ≤ 0) ∧ (s = false → 0 ≤ sval k.format x + (if t then -sval k.format y else sval k.format y)) := by
  obtain ⟨m, e, h1, h2⟩ := read_number k.format hx
  obtain ⟨n, d, h3, h4⟩ := read_number k.format hy
  have hs : ∀ t : Bool, (if t then (k.format.read y).opposite else k.format.read y) = .number (sgn k.format y ^^ t) n (k.format.leastPlace + (d : Nat)) := by
    intro t; rw [h3]; cases t <;> simp [Ieee.Datum.opposite]
  rw [hs, h1]
  simp only [Ieee.Datum.sum, signed_val]
  generalize hc : min e d = q
  have hmin : min (k.format.leastPlace + (e : Int)) (k.format.leastPlace + (d : Int)) = k.format.leastPlace + (q : Int) := by omega
  rw [hmin]
  have e1 : (k.format.leastPlace + (e : Int) - (k.format.leastPlace + (q : Int))).toNat = e - q := by omega
  have e2 : (k.format.leastPlace + (d : Int) - (k.format.leastPlace + (q : Int))).toNat = d - q := by omega
  rw [e1, e2]
  have g1 : m * 2 ^ (e - q) * 2 ^ q = units k.format (rng k.format x) := by rw [← h2, Nat.mul_assoc, ← Nat.pow_add]; congr 2; omega
  have g2 : n * 2 ^ (d - q) * 2 ^ q = units k.format (rng k.format y) := by rw [← h4, Nat.mul_assoc, ← Nat.pow_add]; congr 2; omega
  have hv : sval k.format x + (if t then -sval k.format y else sval k.format y) = ((if sgn k.format x = true then -((m * 2 ^ (e - q) : Nat) : Int) else ((m * 2 ^ (e - q) : Nat) : Int)) + (if (sgn k.format y ^^ t) = true then -((n * 2 ^ (d - q) : Nat) : Int) else ((n * 2 ^ (d - q) : Nat) : Int))) * ((2 ^ q : Nat) : Int) := by
    unfold sval
    rw [← g1, ← g2]
    generalize m * 2 ^ (e - q) = A
    generalize n * 2 ^ (d - q) = B
    generalize 2 ^ q = C
    rw [Int.add_mul]
    cases sgn k.format x <;> cases sgn k.format y <;> cases t <;> simp [Int.neg_mul]
  rw [hv]
  generalize (if sgn k.format x = true then -((m * 2 ^ (e - q) : Nat) : Int) else ((m * 2 ^ (e - q) : Nat) : Int)) + (if (sgn k.format y ^^ t) = true then -((n * 2 ^ (d - q) : Nat) : Int) else ((n * 2 ^ (d - q) : Nat) : Int)) = T
  have hp : (0 : Int) < ((2 ^ q : Nat) : Int) := by exact_mod_cast pow_pos' q
  refine ⟨_, _, q, rfl, by rw [Int.natAbs_mul]; rfl, fun h => ?_, fun h => ?_⟩
  · have : T ≤ 0 := by
      split at h
      · omega
      · have := of_decide_eq_true h; omega
    exact Int.mul_nonpos_of_nonpos_of_nonneg this (Int.le_of_lt hp)
  · have : 0 ≤ T := by
      split at h
      · omega
      · have := of_decide_eq_false h; omega
    exact Int.mul_nonneg this (Int.le_of_lt hp)
theorem dy_write {s : Bool} {M q : Nat} {X v : Int} (hM : M * 2 ^ q = X.natAbs) (hX : X = v * 2 ^ dyU k) (h1 : s = true → X ≤ 0) (h2 : s = false → 0 ≤ X) (hv : v.natAbs < 2 ^ 24) : dy k (k.format.write (.number s M (k.format.leastPlace + (q : Int)))) v := by
  have hp : (0 : Int) < 2 ^ dyU k := Int.pow_pos (by decide)
  have hsv : v = if s then -(v.natAbs : Int) else (v.natAbs : Int) := by
    cases s
    · have : 0 ≤ v := by
        have := h2 rfl
        rw [hX] at this
        exact Int.le_of_mul_le_mul_right (by rw [Int.zero_mul]; exact this) hp
      simp; omega
    · have : v ≤ 0 := by
        have := h1 rfl
        rw [hX] at this
        exact Int.le_of_mul_le_mul_right (by rw [Int.zero_mul]; exact this) hp
      simp; omega
  obtain ⟨r, g1, g2, g3⟩ := dy_word (k := k) s hv hsv
  have hw : k.format.write (.number s M (k.format.leastPlace + (q : Int))) = k.format.word s r := by
    show k.format.nearest s M _ = _
    refine nearest_units k.format s (a := 0) (b := q) (Nat.le_of_lt g1) (by omega) ?_
    rw [hM, hX, g2, Int.natAbs_mul, Int.natAbs_pow, Nat.pow_zero, Nat.mul_one]; rfl
  rw [hw]; exact g3
theorem dy_add (hx : dy k x a) (hy : dy k y b) (h : (a + b).natAbs < 2 ^ 24) : dy k (fop .add k x y) (a + b) := by
  obtain ⟨s, M, q, e1, e2, e3, e4⟩ := sum_units hx.2.1 hy.2.1 false
  unfold fop floatBits Ieee.Format.add
  simp only [Bool.false_eq_true, if_false] at e1 e2 e3 e4
  simp only [e1, Option.map_some, Option.getD_some]
  exact dy_write e2 (by rw [hx.2.2, hy.2.2, Int.add_mul]) e3 e4 h
theorem dy_sub (hx : dy k x a) (hy : dy k y b) (h : (a - b).natAbs < 2 ^ 24) : dy k (fop .sub k x y) (a - b) := by
  obtain ⟨s, M, q, e1, e2, e3, e4⟩ := sum_units hx.2.1 hy.2.1 true
  unfold fop floatBits Ieee.Format.sub
  simp only [if_true] at e1 e2 e3 e4
  simp only [e1, Option.map_some, Option.getD_some]
  exact dy_write e2 (by rw [hx.2.2, hy.2.2, Int.sub_mul]; omega) e3 e4 h
theorem dy.units (hx : dy k x a) : Go.Proofs.Ytgeflnjjppgooaa.units k.format (rng k.format x) = a.natAbs * 2 ^ dyU k := by
  have := congrArg Int.natAbs hx.2.2
  rw [Int.natAbs_mul, Int.natAbs_pow] at this
  unfold sval at this
  split at this <;> simpa using this
theorem dy.sgn (hx : dy k x a) : (Go.Proofs.Ytgeflnjjppgooaa.sgn k.format x = true → a ≤ 0) ∧ (Go.Proofs.Ytgeflnjjppgooaa.sgn k.format x = false → 0 ≤ a) := by
  have hp : (0 : Int) < 2 ^ dyU k := Int.pow_pos (by decide)
  have := hx.2.2
  unfold sval at this
  constructor <;> intro hs <;> rw [hs] at this
  · have h0 : a * 2 ^ dyU k ≤ 0 := by rw [← this]; simp
    exact Int.le_of_mul_le_mul_right (by rw [Int.zero_mul]; exact h0) hp
  · have h0 : 0 ≤ a * 2 ^ dyU k := by rw [← this]; simp
    exact Int.le_of_mul_le_mul_right (by rw [Int.zero_mul]; exact h0) hp
theorem dy_mul (hx : dy k x a) (hy : dy k y b) (h : a * b = 128 * c) (hc : c.natAbs < 2 ^ 24) : dy k (fop .mul k x y) c := by
  obtain ⟨m, e, h1, h2⟩ := read_number k.format hx.2.1
  obtain ⟨n, d, h3, h4⟩ := read_number k.format hy.2.1
  have ha := hx.units
  have hb := hy.units
  have sa := hx.sgn
  have sb := hy.sgn
  have hsc : c = if (sgn k.format x ^^ sgn k.format y) then -(c.natAbs : Int) else (c.natAbs : Int) := by
    have key : ((sgn k.format x ^^ sgn k.format y) = true → a * b ≤ 0) ∧ ((sgn k.format x ^^ sgn k.format y) = false → 0 ≤ a * b) := by
      cases hsx : sgn k.format x <;> cases hsy : sgn k.format y
      · exact ⟨by simp, fun _ => Int.mul_nonneg (sa.2 hsx) (sb.2 hsy)⟩
      · exact ⟨fun _ => Int.mul_nonpos_of_nonneg_of_nonpos (sa.2 hsx) (sb.1 hsy), by simp⟩
      · exact ⟨fun _ => Int.mul_nonpos_of_nonpos_of_nonneg (sa.1 hsx) (sb.2 hsy), by simp⟩
      · exact ⟨by simp, fun _ => Int.mul_nonneg_of_nonpos_of_nonpos (sa.1 hsx) (sb.1 hsy)⟩
    cases hss : (sgn k.format x ^^ sgn k.format y)
    · have := key.2 hss; simp; omega
    · have := key.1 hss; simp; omega
  obtain ⟨r, g1, g2, g3⟩ := dy_word (k := k) (sgn k.format x ^^ sgn k.format y) hc hsc
  have hnat : a.natAbs * b.natAbs = 128 * c.natAbs := by rw [← Int.natAbs_mul, h, Int.natAbs_mul]; rfl
  unfold fop floatBits Ieee.Format.mul
  simp only [h1, h3, Ieee.Datum.product, Option.map_some, Option.getD_some]
  have hw : k.format.write (.number (sgn k.format x ^^ sgn k.format y) (m * n) (k.format.leastPlace + (e : Int) + (k.format.leastPlace + (d : Int)))) = k.format.word (sgn k.format x ^^ sgn k.format y) r := by
    show k.format.nearest _ (m * n) _ = _
    refine nearest_units k.format _ (a := dyU k + 7) (b := e + d) (Nat.le_of_lt g1) ?_ ?_
    · have : k.format.leastPlace = -((dyU k + 7 : Nat) : Int) := by cases k <;> decide
      rw [this]; omega
    · calc m * n * 2 ^ (e + d) = (m * 2 ^ e) * (n * 2 ^ d) := by rw [Nat.pow_add]; simp only [Nat.mul_assoc, Nat.mul_left_comm]
        _ = (a.natAbs * b.natAbs) * (2 ^ dyU k * 2 ^ dyU k) := by rw [h2, h4, ha, hb]; simp only [Nat.mul_assoc, Nat.mul_left_comm]
        _ = units k.format r * 2 ^ (dyU k + 7) := by rw [hnat, g2, Nat.pow_add, show (128 : Nat) = 2 ^ 7 from rfl]; simp only [Nat.mul_assoc, Nat.mul_left_comm, Nat.mul_comm]
  rw [hw]; exact g3
theorem dy_cmp (hx : dy k x a) (hy : dy k y b) : k.format.order x y = some (compare a b) := by
  have hp : (0 : Int) < 2 ^ dyU k := Int.pow_pos (by decide)
  rw [order_number hx.2.1 hy.2.1, hx.2.2, hy.2.2]
  congr 1
  rcases Int.lt_trichotomy a b with h | h | h
  · rw [Int.compare_eq_lt.2 h, Int.compare_eq_lt.2 (Int.mul_lt_mul_of_pos_right h hp)]
  · subst h; rw [compare_eq.2 rfl, compare_eq.2 rfl]
  · rw [Int.compare_eq_gt.2 h, Int.compare_eq_gt.2 (Int.mul_lt_mul_of_pos_right h hp)]
theorem castpow (n : Nat) : ((pow2 n : Nat) : Int) = (2 : Int) ^ n := by unfold pow2; rw [Int.natCast_pow]; rfl
theorem dy_up (hx : dy .f32 x a) : dy .f64 (up x) a := by
  obtain ⟨h1, h2, h3⟩ := up_number hx.2.1
  refine ⟨fconv_lt _ _ _ (by decide), h2, ?_⟩
  have hs := hx.2.2
  change sval Ieee.single x = a * 2 ^ 142 at hs
  show sval Ieee.double (up x) = a * 2 ^ 1067
  have hk : ((upK : Nat) : Int) = 2 ^ 925 := castpow 925
  have e : sval Ieee.double (up x) = sval Ieee.single x * ((upK : Nat) : Int) := by
    unfold sval
    rw [h1, h3]
    split <;> simp [Int.neg_mul]
  rw [e, hs, hk, Int.mul_assoc, ← Int.pow_add]
end
end Go.Proofs.Ytgeflnjjppgooaa

namespace Go.Proofs.Ytgeflnjjppgooaa
open Go.RowKit
def w2w (k : Nat) : Nat := fop .quo .f32 (FloatKind.f32.nearest ((k : Int) - 8)) 1073741824
def g2w (k : Nat) : Nat := fop .quo .f32 (FloatKind.f32.nearest (1 + (k : Int))) 1073741824
def H9 (y : Nat) : Prop := ∃ k : Nat, k < 9 ∧ y = hqw k
def W17 (y : Nat) : Prop := ∃ k : Nat, k < 17 ∧ y = w2w k
def G4 (y : Nat) : Prop := ∃ k : Nat, k < 4 ∧ y = g2w k
def Q17 (y : Nat) : Prop := ∃ k : Nat, k < 17 ∧ y = qw k
def dyb (x : Nat) (v : Int) : Bool := decide (x < 2 ^ FloatKind.f32.format.width) && decide (rng FloatKind.f32.format x < FloatKind.f32.format.infRung) && decide (sval FloatKind.f32.format x = v * 2 ^ dyU .f32)
theorem dyb_is {x : Nat} {v : Int} (h : dyb x v = true) : dy .f32 x v := by
  unfold dyb at h
  simp only [Bool.and_eq_true, decide_eq_true_eq] at h
  exact ⟨h.1.1, h.1.2, h.2⟩
theorem tH : ∀ k : Fin 9, (dyb (hqw k) (64 * ((k.val : Int) - 4)) && fin (hqw k) && fin (fop .mul .f32 (hqw k) 1073741824)) = true := by decide +kernel
theorem tW : ∀ k : Fin 17, (dyb (w2w k) (64 * ((k.val : Int) - 8)) && fin (w2w k)) = true := by decide +kernel
theorem tG : ∀ k : Fin 4, (dyb (g2w k) (64 * ((k.val : Int) + 1)) && least (g2w k)) = true := by decide +kernel
theorem tQ : ∀ k : Fin 17, (dyb (qw k) (32 * ((k.val : Int) - 8)) && fin (qw k) && fin (fop .quo .f32 (qw k) 1073741824)) = true := by decide +kernel
theorem tS : ∀ r : Fin 9, ∀ s : Fin 17, (fop .mul .f32 (fop .mul .f32 (hqw r) 1073741824) (fop .quo .f32 (qw s) 1073741824) == fop .mul .f32 (hqw r) (qw s)) = true := by decide +kernel
theorem hH {y : Nat} (h : H9 y) : ∃ v : Int, v.natAbs ≤ 4 ∧ dy .f32 y (64 * v) ∧ fin y = true ∧ fin (fop .mul .f32 y 1073741824) = true := by
  obtain ⟨k, hk, rfl⟩ := h
  have := tH ⟨k, hk⟩
  simp only [Bool.and_eq_true] at this
  exact ⟨(k : Int) - 4, by omega, dyb_is this.1.1, this.1.2, this.2⟩
theorem hW {y : Nat} (h : W17 y) : ∃ v : Int, v.natAbs ≤ 8 ∧ dy .f32 y (64 * v) ∧ fin y = true := by
  obtain ⟨k, hk, rfl⟩ := h
  have := tW ⟨k, hk⟩
  simp only [Bool.and_eq_true] at this
  exact ⟨(k : Int) - 8, by omega, dyb_is this.1, this.2⟩
theorem hG {y : Nat} (h : G4 y) : ∃ v : Nat, v ≤ 4 ∧ dy .f32 y (64 * (v : Int)) ∧ least y = true := by
  obtain ⟨k, hk, rfl⟩ := h
  have := tG ⟨k, hk⟩
  simp only [Bool.and_eq_true] at this
  exact ⟨k + 1, by omega, dyb_is this.1, this.2⟩
theorem hQ {y : Nat} (h : Q17 y) : ∃ v : Int, v.natAbs ≤ 8 ∧ dy .f32 y (32 * v) ∧ fin y = true ∧ fin (fop .quo .f32 y 1073741824) = true := by
  obtain ⟨k, hk, rfl⟩ := h
  have := tQ ⟨k, hk⟩
  simp only [Bool.and_eq_true] at this
  exact ⟨(k : Int) - 8, by omega, dyb_is this.1.1, this.1.2, this.2⟩
theorem hS {a q : Nat} (h : H9 a) (h2 : Q17 q) : fop .mul .f32 (fop .mul .f32 a 1073741824) (fop .quo .f32 q 1073741824) = fop .mul .f32 a q := by
  obtain ⟨r, hr, rfl⟩ := h
  obtain ⟨s, hs, rfl⟩ := h2
  exact beq_iff_eq.1 (tS ⟨r, hr⟩ ⟨s, hs⟩)
theorem dy_z {k : FloatKind} : dy k 0 0 := by
  refine ⟨by cases k <;> decide, by cases k <;> decide, ?_⟩
  rw [Int.zero_mul]; cases k <;> decide
theorem natAbs_mul_le {a b : Int} {m n : Nat} (h1 : a.natAbs ≤ m) (h2 : b.natAbs ≤ n) : (a * b).natAbs ≤ m * n := by rw [Int.natAbs_mul]; exact Nat.mul_le_mul h1 h2
section
variable {xs x ws gs : List Nat} {xss : List (List Nat)} {n m i : Nat}
theorem getD_H {α : Type} {p : α → Prop} {l : List α} (h : ∀ y ∈ l, p y) {k : Nat} (hk : k < l.length) (d : α) : p (l.getD k d) := by
  have : l.getD k d = l[k] := by simp [List.getD, hk]
  rw [this]; exact h _ (List.getElem_mem hk)
/-- A row's part of the sum. -/
def tm (xss : List (List Nat)) (ws gs x : List Nat) (i : Nat) : Nat := fop .mul .f32 (fop .mul .f32 (gs.getD i 0) (missAt xss ws x i)) (missAt xss ws x i)
theorem sqK_s (k : Nat) : sqK xss ws gs x (k + 1) = fop .add .f32 (sqK xss ws gs x k) (tm xss ws gs x k) := rfl
/-- A design of halves. -/
structure DDok (xss : List (List Nat)) (ws gs : List Nat) (n : Nat) : Prop where
  m1 : 1 ≤ xss.length
  m2 : xss.length ≤ 10
  n1 : 1 ≤ n
  n2 : n ≤ 3
  rows : ∀ xs ∈ xss, xs.length = n ∧ ∀ y ∈ xs, H9 y
  wl : ws.length = xss.length
  gl : gs.length = xss.length
  hw : ∀ y ∈ ws, W17 y
  hg : ∀ y ∈ gs, G4 y
theorem valid_mem (h1 : 1 ≤ xss.length) (h2 : xss.length ≤ 48) (hw : ws.length = xss.length) (hg : gs.length = xss.length) (hwf : ∀ y ∈ ws, fin y = true) (hn : ∀ xs ∈ xss, xs.length = n ∧ ∀ y ∈ xs, fin y = true) (n1 : 1 ≤ n) (n2 : n ≤ 8) (hgl : ∀ y ∈ gs, least y = true) : validD xss ws gs = true := by
  refine valid_yes ⟨h1, h2, hg, hw, List.all_eq_true.2 hwf, fun i hi => ?_, ?_, ?_⟩
  · obtain ⟨r1, r2⟩ := getD_H hn hi []
    obtain ⟨q1, _⟩ := getD_H hn (show 0 < xss.length by omega) []
    exact ⟨by rw [r1, q1], List.all_eq_true.2 r2, getD_H hgl (by omega) 0⟩
  · rw [(getD_H hn (show 0 < xss.length by omega) []).1]; exact n1
  · rw [(getD_H hn (show 0 < xss.length by omega) []).1]; exact n2
theorem row_fin (h : DDok xss ws gs n) : ∀ xs ∈ xss, xs.length = n ∧ ∀ y ∈ xs, fin y = true := fun xs hxs => ⟨(h.rows xs hxs).1, fun y hy => by obtain ⟨_, _, _, h3, _⟩ := hH ((h.rows xs hxs).2 y hy); exact h3⟩
theorem ws_fin (h : DDok xss ws gs n) : ∀ y ∈ ws, fin y = true := fun y hy => by obtain ⟨_, _, _, h3⟩ := hW (h.hw y hy); exact h3
theorem gs_least (h : DDok xss ws gs n) : ∀ y ∈ gs, least y = true := fun y hy => by obtain ⟨_, _, _, h3⟩ := hG (h.hg y hy); exact h3
theorem dd_valid (h : DDok xss ws gs n) : validD xss ws gs = true := valid_mem h.m1 (by have := h.m2; omega) h.wl h.gl (ws_fin h) (row_fin h) h.n1 (by have := h.n2; omega) (gs_least h)
theorem dd_len0 (h : DDok xss ws gs n) : (xss.getD 0 []).length = n := (getD_H h.rows (show 0 < xss.length from h.m1) []).1
theorem mem_app {α : Type} {p : α → Prop} {l r : List α} (h1 : ∀ y ∈ l, p y) (h2 : ∀ y ∈ r, p y) : ∀ y ∈ l ++ r, p y := fun y hy => by
  rcases List.mem_append.1 hy with h | h
  · exact h1 y h
  · exact h2 y h
theorem mem_one {α : Type} {p : α → Prop} {a : α} (h : p a) : ∀ y ∈ [a], p y := fun y hy => by rw [List.mem_singleton.1 hy]; exact h
theorem fits_yes (hv : validD xss ws gs = true) (hl : x.length = (xss.getD 0 []).length) : fitsD xss ws gs x = true := by unfold fitsD; rw [hv, decide_eq_true hl]; rfl
theorem dd_fits (h : DDok xss ws gs n) (hl : x.length = n) : fitsD xss ws gs x = true := fits_yes (dd_valid h) (by rw [hl, dd_len0 h])
end
/-- A drawn design, and where it lies. -/
structure DX where
  p : ((Option Addr × Nat) × (Nat → Option Addr × Nat)) × (Option Addr × Nat) × (Option Addr × Nat)
  xss : List (List Nat)
  ws : List Nat
  gs : List Nat
  n : Nat
  at' : Nat
  sd : Nat
def DX.v (x : DX) : Value := .agg #[.slice x.p.1.1.1 x.xss.length x.p.1.1.2, .slice x.p.2.1.1 x.ws.length x.p.2.1.2, .slice x.p.2.2.1 x.gs.length x.p.2.2.2]
theorem rents_nil {t : TypeId} {f : Nat → Option Addr × Nat} : rents t f [] = [] := rfl
theorem lss_same {x y : Nat} {a : Int} (hx : dy .f64 x a) (hy : dy .f64 y a) : fcmp .lss .f64 x y = false := by
  show (FloatKind.f64.format.order x y == some .lt) = false
  rw [dy_cmp hx hy, compare_eq.2 rfl]; rfl
end Go.Proofs.Ytgeflnjjppgooaa

namespace Go.Proofs.Ytgeflnjjppgooaa.Q
open Go.RowKit
set_option linter.unusedVariables false
set_option linter.unusedSimpArgs false
set_option maxRecDepth 20000
set_option maxHeartbeats 800000
attribute [local irreducible] wqList Wq
theorem mixed_Gs : Try.prog.follows .mixedOrders = true := by kernel_rfl
theorem sz3_Gs : (Try.prog.info? 3).map (·.size) = some 1 := by kernel_rfl
theorem fb3_Gs : flatB Try.prog 3 = true := by kernel_rfl
theorem sz41_Gs : (Try.prog.info? 41).map (·.size) = some 1 := by kernel_rfl
theorem fb41_Gs : flatB Try.prog 41 = true := by kernel_rfl
theorem sz5_Gs : (Try.prog.info? 5).map (·.size) = some 1 := by kernel_rfl
theorem fb5_Gs : flatB Try.prog 5 = true := by kernel_rfl
theorem sz71_Gs : (Try.prog.info? 71).map (·.size) = some 1 := by kernel_rfl
theorem fb71_Gs : flatB Try.prog 71 = true := by kernel_rfl
theorem known89_Gs : Known Try.prog 89 := Known.mk' Try.func89 (by kernel_rfl)
theorem lay113_Gs : Lay Try.prog 113 [Value.slice none 0 0, Value.int .i64 0, Value.int .u64 0] [(0, 1), (1, 1), (2, 1)] := Lay.mk' (by kernel_rfl) (by kernel_rfl)
theorem zero30_Gs : (Try.prog.info? 30).bind (·.zero) = some (Value.agg #[Value.slice none 0 0, Value.slice none 0 0, Value.slice none 0 0]) := by kernel_rfl
theorem known54_Gs : Known Try.prog 54 := Known.mk' Try.func54 (by kernel_rfl)
theorem lay30_Gs : Lay Try.prog 30 [Value.slice none 0 0, Value.slice none 0 0, Value.slice none 0 0] [(0, 1), (1, 1), (2, 1)] := Lay.mk' (by kernel_rfl) (by kernel_rfl)
theorem sz30_Gs : (Try.prog.info? 30).map (·.size) = some 3 := by kernel_rfl
theorem elt26_Gs : Elt Try.prog 26 [Value.float .f32 0] 4 := Elt.mk' (by kernel_rfl) (by decide)
theorem sz22_Gs : (Try.prog.info? 22).map (·.size) = some 1 := by kernel_rfl
theorem fb22_Gs : flatB Try.prog 22 = true := by kernel_rfl
theorem elt23_Gs : Elt Try.prog 23 [Value.slice none 0 0] 24 := Elt.mk' (by kernel_rfl) (by decide)
theorem sz23_Gs : (Try.prog.info? 23).map (·.size) = some 1 := by kernel_rfl
theorem fb23_Gs : flatB Try.prog 23 = true := by kernel_rfl
theorem known52_Gs : Known Try.prog 52 := Known.mk' Try.func52 (by kernel_rfl)
theorem known53_Gs : Known Try.prog 53 := Known.mk' Try.func53 (by kernel_rfl)
theorem ext116_Gs : ExtF Try.prog 116 Extern.MathFloatBits.float32bits := ⟨_, Try.func116, by kernel_rfl, by kernel_rfl, by kernel_rfl, by kernel_rfl⟩
theorem known112_Gs : Known Try.prog 112 := Known.mk' Try.func112 (by kernel_rfl)
theorem known96_Gs : Known Try.prog 96 := Known.mk' Try.func96 (by kernel_rfl)
theorem sz26_Gs : (Try.prog.info? 26).map (·.size) = some 1 := by kernel_rfl
theorem fb26_Gs : flatB Try.prog 26 = true := by kernel_rfl
theorem known67_Gs : Known Try.prog 67 := Known.mk' Try.func67 (by kernel_rfl)
attribute [local irreducible] fop fcmp fconv fneg fabs List.getD qw hqw w2w g2w uw
theorem c_next [PhC] {w0 : World} {a : Option Addr} {c q n sd : Nat} {bs : List Int} (hA : Cl w0 a (bl bs)) (hb : Bytes bs) (hl : bs.length ≤ 2000000) (hn : n ≤ 100000) (hsd : sd < 18446744073709551616) : Mut Try.prog 89 [.pointer (some (adr (some ⟨q, 0, none⟩) 0))] w0 [⟨some ⟨q, 0, none⟩, [.slice a bs.length c, .int .i64 ((n : Nat) : Int), .int .u64 ((sd : Nat) : Int)], 3, 113⟩] (fun x : {x : Nat × Nat // x.1 < 256 ∧ x.2 < 18446744073709551616} => .int .i64 ((x.1.1 : Nat) : Int)) (fun x => [⟨some ⟨q, 0, none⟩, [.slice a bs.length c, .int .i64 ((n + 1 : Nat) : Int), .int .u64 ((x.1.2 : Nat) : Int)], 3, 113⟩]) := by
  refine Mut.enter Try.func89 rfl Try.ntmps89 (Nat.le_of_ble_eq_true rfl) ?_
  intro F
  refine V.seq (V.region ?_)
  refine vr (yr_assign (u := .int .i64 0) rfl rfl) ?_
  refine VL.nil (VE.then_wp (V.seq (V.region ?_)))
  refine vr (yr_assign (u := .int .i64 0) rfl rfl) ?_
  refine VL.nil (VE.then_wp (V.seq (V.seq ?_)))
  refine V.draw [(0, 0), (1, 0), (2, 0), (3, 0), (4, 0), (5, 0), (6, 0), (7, 0), (8, 0), (9, 0)] mixed_Gs (by kernel_rfl) (by intro j o hj; simp at hj) ?_
  refine sr rfl (yr_move rfl rfl) ?_
  refine sr rfl (yr_nilCheck rfl rfl) ?_
  refine sr rfl (yr_fieldAddr rfl Try.underlying113 rfl rfl sz3_Gs (by decide) rfl) ?_
  refine sq rfl (yq_load rfl fb3_Gs rfl zz0 rfl) ?_
  refine sr rfl (yr_move rfl rfl) ?_
  refine sr rfl (yr_nilCheck rfl rfl) ?_
  refine sr rfl (yr_fieldAddr rfl Try.underlying113 rfl rfl sz41_Gs (by decide) rfl) ?_
  refine sq rfl (yq_load rfl fb41_Gs rfl zz0 rfl) ?_
  refine sr rfl (yr_len rfl Try.underlying41 rfl) ?_
  refine sr rfl (yr_icmp rfl (.inr (.inr (.inl rfl))) rfl rfl) ?_
  refine SW.done ?_
  refine VE.then_wp ?_
  refine V.cond rfl (fun h1 => ?_) (fun h1 => ?_)
  · skip
    replace h1 := ic_lss h1
    have hbn := byte_get hb (show n < bs.length by omega)
    refine V.draw [(0, 0), (1, 0), (2, 0), (3, 0), (4, 0), (5, 0), (6, 0), (7, 0), (8, 0), (9, 0), (10, 0), (11, 0)] mixed_Gs (by kernel_rfl) (by intro j o hj; simp at hj) ?_
    refine sr rfl (yr_move rfl rfl) ?_
    refine sr rfl (yr_nilCheck rfl rfl) ?_
    refine sr rfl (yr_fieldAddr rfl Try.underlying113 rfl rfl sz41_Gs (by decide) rfl) ?_
    refine sq rfl (yq_load rfl fb41_Gs rfl zz0 rfl) ?_
    refine sr rfl (yr_move rfl rfl) ?_
    refine sr rfl (yr_nilCheck rfl rfl) ?_
    refine sr rfl (yr_fieldAddr rfl Try.underlying113 rfl rfl sz3_Gs (by decide) rfl) ?_
    refine sq rfl (yq_load rfl fb3_Gs rfl zz0 rfl) ?_
    refine sq rfl (yq_idx (k := n) rfl Try.underlying41 sz5_Gs rfl rfl zz0 zz3 (by exact bl_length _) (by omega)) ?_
    refine sq rfl (yq_load (u := .int .u8 (bs.getD n 0)) rfl fb5_Gs rfl zz0 (bl_get (by omega))) ?_
    refine sr rfl (yr_intConv (r := bs.getD n 0) rfl Try.underlying5 Try.underlying3 rfl (wrap_in (by omega))) ?_
    refine sr rfl (yr_assign rfl rfl) ?_
    refine SW.done ?_
    refine VE.then_wp (V.seq (V.region ?_))
    refine vr (yr_move rfl rfl) ?_
    refine vr (yr_nilCheck rfl rfl) ?_
    refine vr (yr_fieldAddr rfl Try.underlying113 rfl rfl sz3_Gs (by decide) rfl) ?_
    refine vq (yq_load rfl fb3_Gs rfl zz0 rfl) ?_
    refine vr (yr_addN (n + 1) rfl rfl rfl (by push_cast; rfl) (by omega)) ?_
    refine vr (yr_nilCheck rfl rfl) ?_
    refine vr (yr_fieldAddr rfl Try.underlying113 rfl rfl sz3_Gs (by decide) rfl) ?_
    refine VL.s (.inl rfl) rfl (yc_store rfl sz3_Gs rfl rfl zz8 (.inl ⟨rfl, rfl⟩) rfl (by first | exact Nat.le_of_ble_eq_true rfl | simp) (by decide) rfl) ?_
    rintro ⟨⟩
    refine VL.nil (VE.then_wp (V.seq (V.region ?_)))
    refine vr (yr_move rfl rfl) ?_
    refine vr (yr_move rfl rfl) ?_
    refine vr (yr_nilCheck rfl rfl) ?_
    refine vr (yr_fieldAddr rfl Try.underlying113 rfl rfl sz71_Gs (by decide) rfl) ?_
    refine vq (yq_load rfl fb71_Gs rfl zz0 rfl) ?_
    refine vr (yr_int rfl rfl rfl (.inr (.inr ⟨rfl, rfl⟩))) ?_
    refine vr (yr_move rfl rfl) ?_
    refine vr (yr_intConv rfl Try.underlying3 Try.underlying71 rfl rfl) ?_
    refine vr (yr_int rfl rfl rfl (.inl ⟨rfl, rfl⟩)) ?_
    refine vr (yr_int rfl rfl rfl (.inl ⟨rfl, u64_to _⟩)) ?_
    refine vr (yr_nilCheck rfl rfl) ?_
    refine vr (yr_fieldAddr rfl Try.underlying113 rfl rfl sz71_Gs (by decide) rfl) ?_
    refine VL.s (.inl rfl) rfl (yc_store rfl sz71_Gs rfl rfl zz8 (.inl ⟨rfl, rfl⟩) rfl (by first | exact Nat.le_of_ble_eq_true rfl | simp) (by decide) rfl) ?_
    rintro ⟨⟩
    refine VL.nil (VE.then_wp (V.seq (V.seq ?_)))
    refine V.draw [(0, 0), (1, 0), (2, 0), (3, 0), (4, 0), (5, 0), (6, 0), (7, 0), (8, 0), (9, 0)] mixed_Gs (by kernel_rfl) (by intro j o hj; simp at hj) ?_
    refine sr rfl (yr_move rfl rfl) ?_
    refine sr rfl (yr_nilCheck rfl rfl) ?_
    refine sr rfl (yr_fieldAddr rfl Try.underlying113 rfl rfl sz3_Gs (by decide) rfl) ?_
    refine sq rfl (yq_load rfl fb3_Gs rfl zz0 rfl) ?_
    refine sr rfl (yr_move rfl rfl) ?_
    refine sr rfl (yr_nilCheck rfl rfl) ?_
    refine sr rfl (yr_fieldAddr rfl Try.underlying113 rfl rfl sz41_Gs (by decide) rfl) ?_
    refine sq rfl (yq_load rfl fb41_Gs rfl zz0 rfl) ?_
    refine sr rfl (yr_len rfl Try.underlying41 rfl) ?_
    refine sr rfl (yr_icmp rfl (.inr (.inr (.inr (.inl rfl)))) rfl rfl) ?_
    refine SW.done ?_
    refine VE.then_wp ?_
    refine V.cond rfl (fun h2 => ?_) (fun h2 => ?_)
    · skip
      replace h2 := ic_leq h2
      refine V.seq (V.region ?_)
      refine vr (yr_move rfl rfl) ?_
      refine vr (yr_assign rfl rfl) ?_
      refine VL.nil (VE.then_wp (V.ret (VE.then_ret ?_)))
      refine ret1 rfl rfl (fun w1 hw => ?_)
      first
        | exact ⟨⟨((bs.getD n 0).toNat, uw _), by show (bs.getD n 0).toNat < 256; omega, uw_lt _⟩, by show Value.int .i64 (bs.getD n 0) = .int .i64 (((bs.getD n 0).toNat : Nat) : Int); rw [Int.toNat_of_nonneg hbn.1], hw⟩
        | exact ⟨⟨((_ % 256 : Int).toNat, uw _), by show (_ % 256 : Int).toNat < 256; omega, uw_lt _⟩, rfl, hw⟩
    replace h2 := ic_leq' h2
    refine V.skip (VE.then_wp (V.seq (V.region ?_)))
    refine vr (yr_move rfl rfl) ?_
    refine vr (yr_nilCheck rfl rfl) ?_
    refine vr (yr_fieldAddr rfl Try.underlying113 rfl rfl sz71_Gs (by decide) rfl) ?_
    refine vq (yq_load rfl fb71_Gs rfl zz0 rfl) ?_
    refine vr (yr_shr (b := 40) rfl rfl rfl rfl) ?_
    refine vr (yr_bits rfl rfl rfl (.inl ⟨rfl, and255u _⟩)) ?_
    refine vr (yr_intConv rfl Try.underlying71 Try.underlying2 rfl (wrap_in (by omega))) ?_
    refine vr (yr_assign rfl rfl) ?_
    refine VL.nil (VE.then_wp (V.ret ?_))
    refine ret1 rfl rfl (fun w1 hw => ?_)
    first
      | exact ⟨⟨((bs.getD n 0).toNat, uw _), by show (bs.getD n 0).toNat < 256; omega, uw_lt _⟩, by show Value.int .i64 (bs.getD n 0) = .int .i64 (((bs.getD n 0).toNat : Nat) : Int); rw [Int.toNat_of_nonneg hbn.1], hw⟩
      | exact ⟨⟨((_ % 256 : Int).toNat, uw _), by show (_ % 256 : Int).toNat < 256; omega, uw_lt _⟩, rfl, hw⟩
  replace h1 := ic_lss' h1
  refine V.skip (VE.then_wp (V.seq (V.region ?_)))
  refine vr (yr_move rfl rfl) ?_
  refine vr (yr_nilCheck rfl rfl) ?_
  refine vr (yr_fieldAddr rfl Try.underlying113 rfl rfl sz3_Gs (by decide) rfl) ?_
  refine vq (yq_load rfl fb3_Gs rfl zz0 rfl) ?_
  refine vr (yr_addN (n + 1) rfl rfl rfl (by push_cast; rfl) (by omega)) ?_
  refine vr (yr_nilCheck rfl rfl) ?_
  refine vr (yr_fieldAddr rfl Try.underlying113 rfl rfl sz3_Gs (by decide) rfl) ?_
  refine VL.s (.inl rfl) rfl (yc_store rfl sz3_Gs rfl rfl zz8 (.inl ⟨rfl, rfl⟩) rfl (by first | exact Nat.le_of_ble_eq_true rfl | simp) (by decide) rfl) ?_
  rintro ⟨⟩
  refine VL.nil (VE.then_wp (V.seq (V.region ?_)))
  refine vr (yr_move rfl rfl) ?_
  refine vr (yr_move rfl rfl) ?_
  refine vr (yr_nilCheck rfl rfl) ?_
  refine vr (yr_fieldAddr rfl Try.underlying113 rfl rfl sz71_Gs (by decide) rfl) ?_
  refine vq (yq_load rfl fb71_Gs rfl zz0 rfl) ?_
  refine vr (yr_int rfl rfl rfl (.inr (.inr ⟨rfl, rfl⟩))) ?_
  refine vr (yr_move rfl rfl) ?_
  refine vr (yr_intConv rfl Try.underlying3 Try.underlying71 rfl rfl) ?_
  refine vr (yr_int rfl rfl rfl (.inl ⟨rfl, rfl⟩)) ?_
  refine vr (yr_int rfl rfl rfl (.inl ⟨rfl, u64_to _⟩)) ?_
  refine vr (yr_nilCheck rfl rfl) ?_
  refine vr (yr_fieldAddr rfl Try.underlying113 rfl rfl sz71_Gs (by decide) rfl) ?_
  refine VL.s (.inl rfl) rfl (yc_store rfl sz71_Gs rfl rfl zz8 (.inl ⟨rfl, rfl⟩) rfl (by first | exact Nat.le_of_ble_eq_true rfl | simp) (by decide) rfl) ?_
  rintro ⟨⟩
  refine VL.nil (VE.then_wp (V.seq (V.seq ?_)))
  refine V.draw [(0, 0), (1, 0), (2, 0), (3, 0), (4, 0), (5, 0), (6, 0), (7, 0), (8, 0), (9, 0)] mixed_Gs (by kernel_rfl) (by intro j o hj; simp at hj) ?_
  refine sr rfl (yr_move rfl rfl) ?_
  refine sr rfl (yr_nilCheck rfl rfl) ?_
  refine sr rfl (yr_fieldAddr rfl Try.underlying113 rfl rfl sz3_Gs (by decide) rfl) ?_
  refine sq rfl (yq_load rfl fb3_Gs rfl zz0 rfl) ?_
  refine sr rfl (yr_move rfl rfl) ?_
  refine sr rfl (yr_nilCheck rfl rfl) ?_
  refine sr rfl (yr_fieldAddr rfl Try.underlying113 rfl rfl sz41_Gs (by decide) rfl) ?_
  refine sq rfl (yq_load rfl fb41_Gs rfl zz0 rfl) ?_
  refine sr rfl (yr_len rfl Try.underlying41 rfl) ?_
  refine sr rfl (yr_icmp rfl (.inr (.inr (.inr (.inl rfl)))) rfl rfl) ?_
  refine SW.done ?_
  refine VE.then_wp ?_
  refine V.cond rfl (fun h3 => ?_) (fun h3 => ?_)
  · skip
    replace h3 := ic_leq h3
    exfalso; omega
  replace h3 := ic_leq' h3
  refine V.skip (VE.then_wp (V.seq (V.region ?_)))
  refine vr (yr_move rfl rfl) ?_
  refine vr (yr_nilCheck rfl rfl) ?_
  refine vr (yr_fieldAddr rfl Try.underlying113 rfl rfl sz71_Gs (by decide) rfl) ?_
  refine vq (yq_load rfl fb71_Gs rfl zz0 rfl) ?_
  refine vr (yr_shr (b := 40) rfl rfl rfl rfl) ?_
  refine vr (yr_bits rfl rfl rfl (.inl ⟨rfl, and255u _⟩)) ?_
  refine vr (yr_intConv rfl Try.underlying71 Try.underlying2 rfl (wrap_in (by omega))) ?_
  refine vr (yr_assign rfl rfl) ?_
  refine VL.nil (VE.then_wp (V.ret ?_))
  refine ret1 rfl rfl (fun w1 hw => ?_)
  first
    | exact ⟨⟨((bs.getD n 0).toNat, uw _), by show (bs.getD n 0).toNat < 256; omega, uw_lt _⟩, by show Value.int .i64 (bs.getD n 0) = .int .i64 (((bs.getD n 0).toNat : Nat) : Int); rw [Int.toNat_of_nonneg hbn.1], hw⟩
    | exact ⟨⟨((_ % 256 : Int).toNat, uw _), by show (_ % 256 : Int).toNat < 256; omega, uw_lt _⟩, rfl, hw⟩
theorem c_pick [PhC] {w0 : World} {a : Option Addr} {c q n sd : Nat} {bs : List Int} {m : Nat} (hA : Cl w0 a (bl bs)) (hb : Bytes bs) (hl : bs.length ≤ 2000000) (hn : n ≤ 100000) (hsd : sd < 18446744073709551616) (hm2 : 2 ≤ m) (hm3 : m ≤ 200) : Mut Try.prog 54 [.pointer (some (adr (some ⟨q, 0, none⟩) 0)), .int .i64 (m : Int)] w0 [⟨some ⟨q, 0, none⟩, [.slice a bs.length c, .int .i64 ((n : Nat) : Int), .int .u64 ((sd : Nat) : Int)], 3, 113⟩] (fun x : {x : Nat × Nat // x.1 < m ∧ x.2 < 18446744073709551616} => .int .i64 ((x.1.1 : Nat) : Int)) (fun x => [⟨some ⟨q, 0, none⟩, [.slice a bs.length c, .int .i64 ((n + 1 : Nat) : Int), .int .u64 ((x.1.2 : Nat) : Int)], 3, 113⟩]) := by
  refine Mut.enter Try.func54 rfl Try.ntmps54 (Nat.le_of_ble_eq_true rfl) ?_
  intro F
  refine V.seq (V.region ?_)
  refine vr (yr_assign (u := .int .i64 0) rfl rfl) ?_
  refine VL.nil (VE.then_wp (V.seq (V.seq (V.region ?_))))
  refine vr (yr_move rfl rfl) ?_
  refine vr (yr_icmp rfl (.inr (.inr (.inr (.inl rfl)))) rfl rfl) ?_
  refine VL.nil (VE.then_wp ?_)
  refine V.cond rfl (fun h1 => ?_) (fun h1 => ?_)
  · skip
    replace h1 := ic_leq h1
    exfalso; omega
  replace h1 := ic_leq' h1
  refine V.skip (VE.then_wp (V.seq (V.region ?_)))
  refine vr (yr_move rfl rfl) ?_
  refine VL.c (.inl rfl) rfl (by decide) (yc_callf rfl known89_Gs (.cons rfl .nil) (by apply Pick.one; repeat (first | exact Rem.here | apply Rem.there | apply Rem.thereS)) (c_next hA hb (by omega) (by omega) (by omega))) ?_
  rintro ⟨⟨x9, s9⟩, hx9, hs9⟩
  dsimp only at hx9 hs9
  refine vr (yr_assign rfl rfl) ?_
  refine VL.nil (VE.then_wp (V.seq (V.seq (V.region ?_))))
  refine vr (yr_move rfl rfl) ?_
  refine vr (yr_icmp rfl (.inr (.inr (.inr (.inr (.inl rfl))))) rfl rfl) ?_
  refine VL.nil (VE.then_wp ?_)
  refine V.cond rfl (fun h2 => ?_) (fun h2 => ?_)
  · skip
    replace h2 := ic_gtr h2
    exfalso; omega
  replace h2 := ic_gtr' h2
  refine V.skip (VE.then_wp (V.seq (V.region ?_)))
  refine vr (yr_move rfl rfl) ?_
  refine vr (yr_move rfl rfl) ?_
  refine vr (yr_remN x9 m rfl rfl rfl rfl rfl (by omega)) ?_
  refine vr (yr_assign rfl rfl) ?_
  refine VL.nil (VE.then_wp (V.ret ?_))
  refine ret1 rfl rfl (fun w1 hw => ?_)
  exact ⟨⟨(x9 % m, s9), Nat.mod_lt _ (by omega), hs9⟩, rfl, hw.perm' (by rw [List.append_nil]; exact List.perm_append_comm)⟩
theorem c_from [PhC] {w : World} {a : Option Addr} {c : Nat} {bs : List Int} : New Try.prog 52 [.slice a bs.length c] w (fun p : Nat => .pointer (some (adr (some ⟨p, 0, none⟩) 0))) (fun p => [⟨some ⟨p, 0, none⟩, [.slice a bs.length c, .int .i64 ((0 : Nat) : Int), .int .u64 ((0 : Nat) : Int)], 3, 113⟩]) := by
  refine New.enter Try.func52 rfl Try.ntmps52 (Nat.le_of_ble_eq_true rfl) ?_
  refine V.seq (V.region ?_)
  refine vr (yr_assign (u := .pointer none) rfl rfl) ?_
  refine VL.nil (VE.then_wp (V.seq (V.region ?_)))
  refine vr (yr_move rfl rfl) ?_
  refine vr (yr_build rfl lay113_Gs rfl (.cons rfl .nil) (by first | (simp; done) | (simp [vv]; done) | (simp [cn, cn1, cn0]; done)) rfl) ?_
  refine VL.new1 (.inl rfl) rfl (by decide) (yn_box rfl rfl (.inr ⟨rfl, rfl⟩)) ?_
  intro b5
  refine vr (yr_assign rfl rfl) ?_
  refine VL.nil (VE.then_wp (V.ret ?_))
  refine ret1 rfl rfl (fun w1 hw => ?_)
  exact ⟨b5, rfl, hw.out1⟩
theorem c_drawOk [PhC] {w0 : World} {a : Option Addr} {c q n sd : Nat} {bs : List Int} (hA : Cl w0 a (bl bs)) (hb : Bytes bs) (hl : bs.length ≤ 2000000) (hn : n ≤ 90000) (hsd : sd < 18446744073709551616) : Mut Try.prog 53 [.pointer (some (adr (some ⟨q, 0, none⟩) 0))] w0 [⟨some ⟨q, 0, none⟩, [.slice a bs.length c, .int .i64 ((n : Nat) : Int), .int .u64 ((sd : Nat) : Int)], 3, 113⟩] (fun x : {x : DX // DDok x.xss x.ws x.gs x.n ∧ (n ≤ x.at' ∧ x.at' ≤ n + 60) ∧ x.sd < 18446744073709551616} => x.1.v) (fun x => ⟨some ⟨q, 0, none⟩, [.slice a bs.length c, .int .i64 ((x.1.at' : Nat) : Int), .int .u64 ((x.1.sd : Nat) : Int)], 3, 113⟩ :: ⟨x.1.p.2.2.1, fl (x.1.gs), x.1.p.2.2.2 * 1, 26⟩ :: ⟨x.1.p.2.1.1, fl (x.1.ws), x.1.p.2.1.2 * 1, 26⟩ :: ⟨x.1.p.1.1.1, hd x.1.p.1.2 (x.1.xss), x.1.p.1.1.2 * 1, 23⟩ :: rents 26 x.1.p.1.2 (x.1.xss)) := by
  refine Mut.enter Try.func53 rfl Try.ntmps53 (Nat.le_of_ble_eq_true rfl) ?_
  intro F
  haveI hne17 : Nonempty {x : Nat × Nat // x.1 < 17 ∧ x.2 < 18446744073709551616} := ⟨⟨(0, 0), by decide, by decide⟩⟩
  haveI hne4 : Nonempty {x : Nat × Nat // x.1 < 4 ∧ x.2 < 18446744073709551616} := ⟨⟨(0, 0), by decide, by decide⟩⟩
  refine V.seq (V.region ?_)
  refine VL.new1 (.inl rfl) rfl (by decide) (yn_alloc rfl zero30_Gs rfl) ?_
  intro b2
  refine VL.nil (VE.then_wp (V.seq (V.region ?_)))
  refine vr (yr_move rfl rfl) ?_
  refine VL.c (.inl rfl) rfl (by decide) (yc_callf rfl known54_Gs (.cons rfl (.cons rfl .nil)) (by apply Pick.one; repeat (first | exact Rem.here | apply Rem.there | apply Rem.thereS)) (c_pick (m := 3) hA hb (by omega) (by omega) (by omega) (by decide) (by decide))) ?_
  rintro ⟨⟨x9, s9⟩, hx9, hs9⟩
  dsimp only at hx9 hs9
  refine vr (yr_addN (1 + x9) rfl rfl rfl (by push_cast; rfl) (by omega)) ?_
  refine vr (yr_assign rfl rfl) ?_
  refine VL.nil (VE.then_wp (V.seq (V.region ?_)))
  refine vr (yr_build rfl lay30_Gs rfl .nil (by first | (simp; done) | (simp [vv]; done) | (simp [cn, cn1, cn0]; done)) rfl) ?_
  refine VL.new1 (.inl rfl) rfl (by decide) (yn_alloc rfl zero30_Gs rfl) ?_
  intro b4
  refine VL.s (.inl rfl) rfl (yc_store rfl sz30_Gs rfl rfl zz8 (.inr ⟨rfl, rfl⟩) rfl (by first | exact Nat.le_of_ble_eq_true rfl | simp) (by decide) rfl) ?_
  rintro ⟨⟩
  refine VL.nil (VE.then_wp (V.seq (V.seq (V.region ?_))))
  refine vr (yr_move rfl rfl) ?_
  refine VL.c (.inl rfl) rfl (by decide) (yc_callf rfl known54_Gs (.cons rfl (.cons rfl .nil)) (by apply Pick.one; repeat (first | exact Rem.here | apply Rem.there | apply Rem.thereS)) (c_pick (m := 10) hA hb (by omega) (by omega) (by omega) (by decide) (by decide))) ?_
  rintro ⟨⟨x13, s13⟩, hx13, hs13⟩
  dsimp only at hx13 hs13
  refine vr (yr_addN (1 + x13) rfl rfl rfl (by push_cast; rfl) (by omega)) ?_
  refine vr (yr_assign rfl rfl) ?_
  refine VL.nil (VE.then_wp (V.block ?_))
  refine V.loopc (G := (List (List Nat)) × (Nat → Option Addr × Nat) × (Option Addr) × Nat × (List Nat) × (Option Addr) × Nat × (List Nat) × (Option Addr) × Nat × Nat × Nat) [(0, _), (2, _), (3, _), (4, _)] (fun ⟨xss, f, ah, ch, ws, aw, cw, gs, ag, cg, nn, sd⟩ => xss.length ≤ (1 + x13) ∧ (∀ xs ∈ xss, xs.length = (1 + x9) ∧ ∀ y ∈ xs, H9 y) ∧ (ws.length = xss.length ∧ gs.length = xss.length) ∧ (∀ y ∈ ws, W17 y) ∧ (∀ y ∈ gs, G4 y) ∧ (n ≤ nn ∧ nn ≤ n + 2 + 5 * xss.length) ∧ sd < 18446744073709551616) (fun ⟨xss, f, ah, ch, ws, aw, cw, gs, ag, cg, nn, sd⟩ => (⟨some ⟨b4, 0, none⟩, [.slice ah xss.length ch, .slice aw ws.length cw, .slice ag gs.length cg], 3, 30⟩ :: ⟨ag, fl gs, cg * 1, 26⟩ :: ⟨aw, fl ws, cw * 1, 26⟩ :: ⟨ah, hd f xss, ch * 1, 23⟩ :: ⟨some ⟨b2, 0, none⟩, [.slice none 0 0, .slice none 0 0, .slice none 0 0], 3, 30⟩ :: ⟨some ⟨q, 0, none⟩, [.slice a bs.length c, .int .i64 ((nn : Nat) : Int), .int .u64 ((sd : Nat) : Int)], 3, 113⟩ :: (rents 26 f xss ++ F))) (fun ⟨xss, f, ah, ch, ws, aw, cw, gs, ag, cg, nn, sd⟩ => [(5, .int .i64 (((1 + x13) - xss.length : Nat) : Int))]) (fun ⟨xss, f, ah, ch, ws, aw, cw, gs, ag, cg, nn, sd⟩ => (1 + x13) - xss.length) ([], fun _ => (none, 0), none, 0, [], none, 0, [], none, 0, n + 1 + 1, s13) (.cons rfl (.cons rfl (.cons rfl (.cons rfl .nil)))) (.cons rfl .nil) ?_ ?_ ?_
  · exact (fun w hw => by
      have h9 := ((hw.nilU 26).nilU 26).nilU 23
      dsimp only
      rw [rents_nil, List.nil_append]
      exact h9.pick (by apply Pick.cons1; (· repeat (first | exact Rem.here | exact Rem.all | exact Rem.hereS | apply Rem.there | apply Rem.thereS)); apply Pick.cons1; (· repeat (first | exact Rem.here | exact Rem.all | exact Rem.hereS | apply Rem.there | apply Rem.thereS)); apply Pick.cons1; (· repeat (first | exact Rem.here | exact Rem.all | exact Rem.hereS | apply Rem.there | apply Rem.thereS)); apply Pick.cons1; (· repeat (first | exact Rem.here | exact Rem.all | exact Rem.hereS | apply Rem.there | apply Rem.thereS)); apply Pick.cons1; (· repeat (first | exact Rem.here | exact Rem.all | exact Rem.hereS | apply Rem.there | apply Rem.thereS)); apply Pick.cons1; (· repeat (first | exact Rem.here | exact Rem.all | exact Rem.hereS | apply Rem.there | apply Rem.thereS)); apply Pick.last; repeat (first | exact Rem.here | exact Rem.all | exact Rem.hereS | apply Rem.there | apply Rem.thereS)))
  · exact (by exact ⟨Nat.zero_le _, fun xs h => (by cases h), ⟨rfl, rfl⟩, fun y h => (by cases h), fun y h => (by cases h), ⟨by show n ≤ n + 1 + 1; omega, by show n + 1 + 1 ≤ n + 2 + 5 * 0; omega⟩, hs13⟩)
  rintro ⟨xss, f, ah, ch, ws, aw, cw, gs, ag, cg, nn, sd⟩ ⟨hl9, hr9, ⟨hw9, hg9⟩, hW9, hG9, hn9, hs9⟩
  show V _ _ _ (⟨some ⟨b4, 0, none⟩, [.slice ah xss.length ch, .slice aw ws.length cw, .slice ag gs.length cg], 3, 30⟩ :: ⟨ag, fl gs, cg * 1, 26⟩ :: ⟨aw, fl ws, cw * 1, 26⟩ :: ⟨ah, hd f xss, ch * 1, 23⟩ :: ⟨some ⟨b2, 0, none⟩, [.slice none 0 0, .slice none 0 0, .slice none 0 0], 3, 30⟩ :: ⟨some ⟨q, 0, none⟩, [.slice a bs.length c, .int .i64 ((nn : Nat) : Int), .int .u64 ((sd : Nat) : Int)], 3, 113⟩ :: (rents 26 f xss ++ F)) ([(5, .int .i64 (((1 + x13) - xss.length : Nat) : Int))] ++ [(0, _), (2, _), (3, _), (4, _)]) _ _
  refine V.seq (V.seq (V.region ?_))
  refine vr (yr_move rfl rfl) ?_
  refine vr (yr_icmp rfl (.inr (.inr (.inr (.inr (.inl rfl))))) rfl rfl) ?_
  refine VL.nil (VE.then_wp ?_)
  refine V.cond rfl (fun h1 => ?_) (fun h1 => ?_)
  · skip
    replace h1 := ic_gtr h1
    refine V.skip (VE.then_wp (V.seq (V.block (V.seq (V.region ?_)))))
    refine VL.new1 (.inl rfl) rfl (by decide) (yn_lit rfl Try.underlying23 elt26_Gs rfl (by decide) .nil (by first | (simp; done) | (simp [cn, cn1, cn0]; done)) rfl rfl rfl) ?_
    intro b19
    refine vr (yr_assign rfl rfl) ?_
    refine VL.nil (VE.then_wp (V.seq (V.seq (V.region ?_))))
    refine vr (yr_assign (u := .int .i64 0) rfl rfl) ?_
    refine VL.nil (VE.then_wp (V.block ?_))
    refine V.loopc (G := (List Nat) × (Option Addr) × Nat × Nat × Nat) [(0, _), (2, _), (3, _), (4, _), (5, _)] (fun ⟨xs, ar, cr, nn1, sd1⟩ => xs.length ≤ (1 + x9) ∧ (∀ y ∈ xs, H9 y) ∧ (nn ≤ nn1 ∧ nn1 ≤ nn + xs.length) ∧ sd1 < 18446744073709551616) (fun ⟨xs, ar, cr, nn1, sd1⟩ => (⟨ar, fl xs, cr * 1, 26⟩ :: ⟨some ⟨b4, 0, none⟩, [.slice ah xss.length ch, .slice aw ws.length cw, .slice ag gs.length cg], 3, 30⟩ :: ⟨ag, fl gs, cg * 1, 26⟩ :: ⟨aw, fl ws, cw * 1, 26⟩ :: ⟨ah, hd f xss, ch * 1, 23⟩ :: ⟨some ⟨b2, 0, none⟩, [.slice none 0 0, .slice none 0 0, .slice none 0 0], 3, 30⟩ :: ⟨some ⟨q, 0, none⟩, [.slice a bs.length c, .int .i64 ((nn1 : Nat) : Int), .int .u64 ((sd1 : Nat) : Int)], 3, 113⟩ :: (rents 26 f xss ++ F))) (fun ⟨xs, ar, cr, nn1, sd1⟩ => [(6, .slice ar xs.length cr), (7, .int .i64 (xs.length : Int))]) (fun ⟨xs, ar, cr, nn1, sd1⟩ => (1 + x9) - xs.length) ([], some ⟨b19, 0, none⟩, 0, nn, sd) (.cons rfl (.cons rfl (.cons rfl (.cons rfl (.cons rfl .nil))))) (.cons rfl (.cons rfl .nil)) ?_ ?_ ?_
    · exact (fun w hw => by dsimp only; rw [fl_nil]; exact hw.pick (by apply Pick.cons1; (· repeat (first | exact Rem.here | exact Rem.all | exact Rem.hereS | apply Rem.there | apply Rem.thereS)); apply Pick.cons1; (· repeat (first | exact Rem.here | exact Rem.all | exact Rem.hereS | apply Rem.there | apply Rem.thereS)); apply Pick.cons1; (· repeat (first | exact Rem.here | exact Rem.all | exact Rem.hereS | apply Rem.there | apply Rem.thereS)); apply Pick.cons1; (· repeat (first | exact Rem.here | exact Rem.all | exact Rem.hereS | apply Rem.there | apply Rem.thereS)); apply Pick.cons1; (· repeat (first | exact Rem.here | exact Rem.all | exact Rem.hereS | apply Rem.there | apply Rem.thereS)); apply Pick.cons1; (· repeat (first | exact Rem.here | exact Rem.all | exact Rem.hereS | apply Rem.there | apply Rem.thereS)); apply Pick.cons1; (· repeat (first | exact Rem.here | exact Rem.all | exact Rem.hereS | apply Rem.there | apply Rem.thereS)); apply Pick.app1; (· repeat (first | exact Rem.here | exact Rem.all | exact Rem.hereS | apply Rem.there | apply Rem.thereS)); apply Pick.last; repeat (first | exact Rem.here | exact Rem.all | exact Rem.hereS | apply Rem.there | apply Rem.thereS)))
    · exact (by exact ⟨Nat.zero_le _, fun y h => (by cases h), ⟨Nat.le_refl _, Nat.le_refl _⟩, hs9⟩)
    rintro ⟨xs, ar, cr, nn1, sd1⟩ ⟨hm9, hx9, hn8, hs8⟩
    show V _ _ _ (⟨ar, fl xs, cr * 1, 26⟩ :: ⟨some ⟨b4, 0, none⟩, [.slice ah xss.length ch, .slice aw ws.length cw, .slice ag gs.length cg], 3, 30⟩ :: ⟨ag, fl gs, cg * 1, 26⟩ :: ⟨aw, fl ws, cw * 1, 26⟩ :: ⟨ah, hd f xss, ch * 1, 23⟩ :: ⟨some ⟨b2, 0, none⟩, [.slice none 0 0, .slice none 0 0, .slice none 0 0], 3, 30⟩ :: ⟨some ⟨q, 0, none⟩, [.slice a bs.length c, .int .i64 ((nn1 : Nat) : Int), .int .u64 ((sd1 : Nat) : Int)], 3, 113⟩ :: (rents 26 f xss ++ F)) ([(6, .slice ar xs.length cr), (7, .int .i64 (xs.length : Int))] ++ [(0, _), (2, _), (3, _), (4, _), (5, _)]) _ _
    refine V.seq (V.seq (V.region ?_))
    refine vr (yr_move rfl rfl) ?_
    refine vr (yr_move rfl rfl) ?_
    refine vr (yr_icmp rfl (.inr (.inr (.inl rfl))) rfl rfl) ?_
    refine VL.nil (VE.then_wp ?_)
    refine V.cond rfl (fun h2 => ?_) (fun h2 => ?_)
    · skip
      replace h2 := ic_lss h2
      refine V.skip (VE.then_wp (V.seq (V.block (V.region ?_))))
      refine vr (yr_move rfl rfl) ?_
      refine vr (yr_move rfl rfl) ?_
      refine VL.c (.inl rfl) rfl (by decide) (yc_callf rfl known54_Gs (.cons rfl (.cons rfl .nil)) (by apply Pick.one; repeat (first | exact Rem.here | apply Rem.there | apply Rem.thereS)) (c_pick (m := 9) hA hb (by omega) (by omega) (by omega) (by decide) (by decide))) ?_
      rintro ⟨⟨x27, s27⟩, hx27, hs27⟩
      dsimp only at hx27 hs27
      refine vr (yr_int rfl rfl rfl (.inr (.inl ⟨rfl, wrap_in (by (try dsimp only); omega)⟩))) ?_
      refine vr (yr_ofInt rfl Try.underlying2 Try.underlying26 rfl) ?_
      refine vr (show YR _ _ _ (.float .f32 (hqw x27)) from (by unfold hqw; exact yr_float rfl (.inr (.inr (.inr rfl))) rfl rfl)) ?_
      refine VL.new1 (.inl rfl) rfl (by decide) (yn_lit rfl Try.underlying23 elt26_Gs rfl (by decide) (.cons rfl .nil) (by first | (simp; done) | (simp [cn, cn1, cn0]; done)) rfl rfl rfl) ?_
      intro b31
      refine VL.c (.inl rfl) rfl (by decide) (yc_appendz 1 rfl rfl Try.underlying23 elt26_Gs rfl rfl zz8 zz0 rfl (by first | (rw [fl_length, Nat.mul_one]; done) | (rw [hd_length, Nat.mul_one]; done) | rw [hd_length] | rw [fl_length]) (by first | rfl | simp) (by first | rfl | exact fl_scal _ | exact hd_scal _ _) (by first | rfl | exact fl_scal _) (by omega) (by omega)) ?_
      rintro ⟨a32, c32⟩
      refine vr (yr_assign rfl rfl) ?_
      refine VL.nil (VE.block_normal (VE.then_wp (V.region ?_)))
      refine vr (yr_move rfl rfl) ?_
      refine vr (yr_int rfl rfl rfl (.inl ⟨rfl, wrap_in (by (try dsimp only); omega)⟩)) ?_
      refine vr (yr_assign rfl rfl) ?_
      refine VL.nil ?_
      refine VE.round (xs ++ [hqw x27], a32, c32, nn1 + 1, s27) ?_ ?_ ?_ ?_ ?_
      · exact (.cons (congrArg (fun n => some (Value.slice _ n _)) (by rw [List.length_append]; rfl)) (.cons (congrArg (fun i => some (Value.int .i64 i)) (by rw [List.length_append]; rfl)) .nil))
      · exact (.cons rfl (.cons rfl (.cons rfl (.cons rfl (.cons rfl .nil)))))
      · exact (fun w hw => by dsimp only; rw [← fl_snoc]; exact hw.pick (by apply Pick.cons1; (· repeat (first | exact Rem.here | exact Rem.all | exact Rem.hereS | apply Rem.there | apply Rem.thereS)); apply Pick.cons1; (· repeat (first | exact Rem.here | exact Rem.all | exact Rem.hereS | apply Rem.there | apply Rem.thereS)); apply Pick.cons1; (· repeat (first | exact Rem.here | exact Rem.all | exact Rem.hereS | apply Rem.there | apply Rem.thereS)); apply Pick.cons1; (· repeat (first | exact Rem.here | exact Rem.all | exact Rem.hereS | apply Rem.there | apply Rem.thereS)); apply Pick.cons1; (· repeat (first | exact Rem.here | exact Rem.all | exact Rem.hereS | apply Rem.there | apply Rem.thereS)); apply Pick.cons1; (· repeat (first | exact Rem.here | exact Rem.all | exact Rem.hereS | apply Rem.there | apply Rem.thereS)); apply Pick.cons1; (· repeat (first | exact Rem.here | exact Rem.all | exact Rem.hereS | apply Rem.there | apply Rem.thereS)); apply Pick.app1; (· repeat (first | exact Rem.here | exact Rem.all | exact Rem.hereS | apply Rem.there | apply Rem.thereS)); apply Pick.last; repeat (first | exact Rem.here | exact Rem.all | exact Rem.hereS | apply Rem.there | apply Rem.thereS)))
      · dsimp only
        simp only [List.length_append, List.length_cons, List.length_nil, Nat.zero_add]
        exact ⟨by omega, mem_app hx9 (mem_one ⟨x27, hx27, rfl⟩), ⟨by omega, by omega⟩, hs27⟩
      · dsimp only; rw [List.length_append]; show (1 + x9) - (xs.length + 1) < (1 + x9) - xs.length; omega
    replace h2 := ic_lss' h2
    refine V.exit ?_
    refine VE.then_exit (VE.then_exit (VE.block_here (VE.then_wp (V.seq (V.region ?_)))))
    refine vr (yr_fieldAddr rfl Try.underlying30 rfl rfl sz22_Gs (by decide) rfl) ?_
    refine vq (yq_load rfl fb22_Gs rfl zz0 rfl) ?_
    refine vr (yr_move rfl rfl) ?_
    refine VL.new1 (.inl rfl) rfl (by decide) (yn_lit rfl Try.underlying22 elt23_Gs rfl (by decide) (.cons rfl .nil) (by first | (simp; done) | (simp [cn, cn1, cn0]; done)) rfl rfl rfl) ?_
    intro b36
    refine VL.c (.inl rfl) rfl (by decide) (yc_appendz 1 rfl rfl Try.underlying22 elt23_Gs rfl rfl zz8 zz0 rfl (by first | (rw [fl_length, Nat.mul_one]; done) | (rw [hd_length, Nat.mul_one]; done) | rw [hd_length] | rw [fl_length]) (by first | rfl | simp) (by first | rfl | exact fl_scal _ | exact hd_scal _ _) (by first | rfl | exact fl_scal _) (by omega) (by omega)) ?_
    rintro ⟨a37, c37⟩
    refine vr (yr_fieldAddr rfl Try.underlying30 rfl rfl sz22_Gs (by decide) rfl) ?_
    refine VL.s (.inl rfl) rfl (yc_store rfl sz22_Gs rfl rfl zz8 (.inl ⟨rfl, rfl⟩) rfl (by first | exact Nat.le_of_ble_eq_true rfl | simp) (by decide) rfl) ?_
    rintro ⟨⟩
    refine VL.nil (VE.then_wp (V.seq ?_))
    refine Dr.V.drawR [(0, 5), (1, 5), (2, 5), (3, 3), (4, 5), (5, 5), (6, 5), (7, 1), (8, 3), (9, 5), (10, 4)] [] [⟨some ⟨q, 0, none⟩, [.slice a bs.length c, .int .i64 ((nn1 : Nat) : Int), .int .u64 ((sd1 : Nat) : Int)], 3, 113⟩, ⟨aw, fl ws, cw * 1, 26⟩] _ mixed_Gs (by kernel_rfl) (fun w hw => Hp.pickS hw (by apply Pick.e2; all_goals (repeat (first | exact Rem.here | exact Rem.all | exact Rem.hereS | apply Rem.there | apply Rem.thereS)))) ?_
    refine Dr.SW.r rfl (.inl rfl) rfl (by decide) (yr_fieldAddr rfl Try.underlying30 rfl rfl sz23_Gs (by decide) rfl) ?_
    refine Dr.SW.p rfl (.inl rfl) rfl (by decide) (yq_load rfl fb23_Gs rfl zz5 rfl) ?_
    refine Dr.SW.r rfl (.inl rfl) rfl (by decide) (yr_move rfl rfl) ?_
    refine Dr.SW.c rfl (.inl rfl) rfl (by decide) (yc_callfR rfl known54_Gs (.cons rfl (.cons rfl .nil)) (by apply Pick.one; repeat (first | exact Rem.here | exact Rem.all | exact Rem.hereS | apply Rem.there | apply Rem.thereS)) (c_pick (m := 17) hA hb (by omega) (by omega) (by omega) (by decide) (by decide))) ?_
    rintro ⟨⟨x42, s42⟩, hx42, hs42⟩
    dsimp only at hx42 hs42
    refine Dr.SW.r rfl (.inl rfl) rfl (by decide) (yr_int rfl rfl rfl (.inr (.inl ⟨rfl, wrap_in (by (try dsimp only); omega)⟩))) ?_
    refine Dr.SW.r rfl (.inl rfl) rfl (by decide) (yr_ofInt rfl Try.underlying2 Try.underlying26 rfl) ?_
    refine Dr.SW.r rfl (.inl rfl) rfl (by decide) (show YR _ _ _ (.float .f32 (w2w x42)) from (by unfold w2w; exact yr_float rfl (.inr (.inr (.inr rfl))) rfl rfl)) ?_
    refine Dr.SW.new1 rfl (.inl rfl) rfl (by decide) (yn_lit rfl Try.underlying23 elt26_Gs rfl (by decide) (.cons rfl .nil) (by first | (simp; done) | (simp [cn, cn1, cn0]; done)) rfl rfl rfl) ?_
    intro b46
    refine Dr.SW.c rfl (.inl rfl) rfl (by decide) (yc_appendz 1 rfl rfl Try.underlying23 elt26_Gs rfl rfl (Dr.UpdF.app zz8) zz5 rfl (by first | (rw [fl_length, Nat.mul_one]; done) | (rw [hd_length, Nat.mul_one]; done) | rw [hd_length] | rw [fl_length]) (by first | rfl | simp) (by first | rfl | exact fl_scal _ | exact hd_scal _ _) (by first | rfl | exact fl_scal _) (by omega) (by omega)) ?_
    rintro ⟨a47, c47⟩
    refine Dr.SW.r rfl (.inl rfl) rfl (by decide) (yr_fieldAddr rfl Try.underlying30 rfl rfl sz23_Gs (by decide) rfl) ?_
    refine Dr.SW.t rfl (.inl rfl) rfl (yc_store rfl sz23_Gs rfl rfl zz8 (.inl ⟨rfl, rfl⟩) rfl (by first | exact Nat.le_of_ble_eq_true rfl | simp) (by decide) rfl) ?_
    rintro ⟨⟩
    refine Dr.SW.done ?_
    refine Dr.eqO (by simp only [List.append_nil, List.append_assoc, List.cons_append, List.nil_append] <;> rfl) ?_
    refine VE.then_wp ?_
    refine Dr.V.drawR [(0, 5), (1, 5), (2, 5), (3, 3), (4, 5), (5, 5), (6, 5), (7, 1), (8, 3), (9, 5), (10, 4)] [] [⟨some ⟨q, 0, none⟩, [.slice a bs.length c, .int .i64 ((nn1 + 1 : Nat) : Int), .int .u64 ((s42 : Nat) : Int)], 3, 113⟩, ⟨a47, fl (ws ++ [w2w x42]), c47 * 1, 26⟩, ⟨ag, fl gs, cg * 1, 26⟩] _ mixed_Gs (by kernel_rfl) (fun w hw => by rw [← fl_snoc]; exact Hp.pickS hw (by apply Pick.e3x; all_goals (repeat (first | exact Rem.here | exact Rem.all | exact Rem.hereS | apply Rem.there | apply Rem.thereS)))) ?_
    refine Dr.SW.r rfl (.inl rfl) rfl (by decide) (yr_fieldAddr rfl Try.underlying30 rfl rfl sz23_Gs (by decide) rfl) ?_
    refine Dr.SW.p rfl (.inl rfl) rfl (by decide) (yq_load rfl fb23_Gs rfl zz5 rfl) ?_
    refine Dr.SW.r rfl (.inl rfl) rfl (by decide) (yr_move rfl rfl) ?_
    refine Dr.SW.c rfl (.inl rfl) rfl (by decide) (yc_callfR rfl known54_Gs (.cons rfl (.cons rfl .nil)) (by apply Pick.one; repeat (first | exact Rem.here | exact Rem.all | exact Rem.hereS | apply Rem.there | apply Rem.thereS)) (c_pick (m := 4) hA hb (by omega) (by omega) (by omega) (by decide) (by decide))) ?_
    rintro ⟨⟨x52, s52⟩, hx52, hs52⟩
    dsimp only at hx52 hs52
    refine Dr.SW.r rfl (.inl rfl) rfl (by decide) (yr_int (r := 1 + (x52 : Int)) rfl rfl rfl (.inl ⟨rfl, wrap_in (by (try dsimp only); omega)⟩)) ?_
    refine Dr.SW.r rfl (.inl rfl) rfl (by decide) (yr_ofInt rfl Try.underlying2 Try.underlying26 rfl) ?_
    refine Dr.SW.r rfl (.inl rfl) rfl (by decide) (show YR _ _ _ (.float .f32 (g2w x52)) from (by unfold g2w; exact yr_float rfl (.inr (.inr (.inr rfl))) rfl rfl)) ?_
    refine Dr.SW.new1 rfl (.inl rfl) rfl (by decide) (yn_lit rfl Try.underlying23 elt26_Gs rfl (by decide) (.cons rfl .nil) (by first | (simp; done) | (simp [cn, cn1, cn0]; done)) rfl rfl rfl) ?_
    intro b56
    refine Dr.SW.c rfl (.inl rfl) rfl (by decide) (yc_appendz 1 rfl rfl Try.underlying23 elt26_Gs rfl rfl (Dr.UpdF.app zz8) zz5 rfl (by first | (rw [fl_length, Nat.mul_one]; done) | (rw [hd_length, Nat.mul_one]; done) | rw [hd_length] | rw [fl_length]) (by first | rfl | simp) (by first | rfl | exact fl_scal _ | exact hd_scal _ _) (by first | rfl | exact fl_scal _) (by omega) (by omega)) ?_
    rintro ⟨a57, c57⟩
    refine Dr.SW.r rfl (.inl rfl) rfl (by decide) (yr_fieldAddr rfl Try.underlying30 rfl rfl sz23_Gs (by decide) rfl) ?_
    refine Dr.SW.t rfl (.inl rfl) rfl (yc_store rfl sz23_Gs rfl rfl zz8 (.inl ⟨rfl, rfl⟩) rfl (by first | exact Nat.le_of_ble_eq_true rfl | simp) (by decide) rfl) ?_
    rintro ⟨⟩
    refine Dr.SW.done ?_
    refine Dr.eqO (by simp only [List.append_nil, List.append_assoc, List.cons_append, List.nil_append] <;> rfl) ?_
    refine VE.block_normal (VE.then_wp (V.region ?_))
    refine vr (yr_move rfl rfl) ?_
    refine vr (yr_int rfl rfl rfl (.inr (.inl ⟨rfl, wrap_in (by (try dsimp only); omega)⟩))) ?_
    refine vr (yr_assign rfl rfl) ?_
    refine VL.nil ?_
    refine VE.round (xss ++ [xs], upd f xss.length (ar, cr), a37, c37, ws ++ [w2w x42], a47, c47, gs ++ [g2w x52], a57, c57, nn1 + 1 + 1, s52) ?_ ?_ ?_ ?_ ?_
    · exact (.cons (congrArg (fun i => some (Value.int .i64 i)) (by rw [List.length_append]; show _ = (((1 + x13) - (xss.length + 1) : Nat) : Int); omega)) .nil)
    · exact (.cons rfl (.cons rfl (.cons rfl (.cons rfl .nil))))
    · exact (fun w hw => by
        dsimp only
        simp only [← hd_snoc _ _ (ar, cr), ← rents_snoc _ _ _ (ar, cr), ← fl_snoc gs, List.length_append, List.length_cons, List.length_nil, Nat.zero_add, List.append_assoc, List.cons_append, List.nil_append]
        exact hw.pick (by apply Pick.cons1; (· repeat (first | exact Rem.here | exact Rem.all | exact Rem.hereS | apply Rem.there | apply Rem.thereS)); apply Pick.cons1; (· repeat (first | exact Rem.here | exact Rem.all | exact Rem.hereS | apply Rem.there | apply Rem.thereS)); apply Pick.cons1; (· repeat (first | exact Rem.here | exact Rem.all | exact Rem.hereS | apply Rem.there | apply Rem.thereS)); apply Pick.cons1; (· repeat (first | exact Rem.here | exact Rem.all | exact Rem.hereS | apply Rem.there | apply Rem.thereS)); apply Pick.cons1; (· repeat (first | exact Rem.here | exact Rem.all | exact Rem.hereS | apply Rem.there | apply Rem.thereS)); apply Pick.cons1; (· repeat (first | exact Rem.here | exact Rem.all | exact Rem.hereS | apply Rem.there | apply Rem.thereS)); apply Pick.app1; (· repeat (first | exact Rem.here | exact Rem.all | exact Rem.hereS | apply Rem.there | apply Rem.thereS)); apply Pick.cons1; (· repeat (first | exact Rem.here | exact Rem.all | exact Rem.hereS | apply Rem.there | apply Rem.thereS)); apply Pick.last; repeat (first | exact Rem.here | exact Rem.all | exact Rem.hereS | apply Rem.there | apply Rem.thereS)))
    · dsimp only
      simp only [List.length_append, List.length_cons, List.length_nil, Nat.zero_add]
      exact ⟨by omega, mem_app hr9 (mem_one ⟨by omega, hx9⟩), ⟨by omega, by omega⟩, mem_app hW9 (mem_one ⟨x42, hx42, rfl⟩), mem_app hG9 (mem_one ⟨x52, hx52, rfl⟩), ⟨by omega, by omega⟩, hs52⟩
    · dsimp only; rw [List.length_append]; show (1 + x13) - (xss.length + 1) < (1 + x13) - xss.length; omega
  replace h1 := ic_gtr' h1
  have hlM : xss.length = (1 + x13) := by omega
  refine V.exit ?_
  refine VE.then_exit (VE.then_exit (VE.block_here (VE.then_wp (V.seq (V.region ?_)))))
  refine vq (yq_loadS rfl Try.underlying30 sz30_Gs rfl zz0 rfl rfl rfl) ?_
  refine VL.s (.inl rfl) rfl (yc_store rfl sz30_Gs rfl rfl zz8 (.inr ⟨rfl, rfl⟩) rfl (by first | exact Nat.le_of_ble_eq_true rfl | simp) (by decide) rfl) ?_
  rintro ⟨⟩
  refine VL.nil (VE.then_wp (V.ret ?_))
  refine retC rfl (rv_cellS rfl Try.underlying30 sz30_Gs zz0 rfl rfl rfl) (by nofun) (fun w1 hw => ?_)
  refine ⟨⟨⟨(((ah, ch), f), (aw, cw), (ag, cg)), xss, ws, gs, (1 + x9), nn, sd⟩, ⟨by show 1 ≤ xss.length; omega, by show xss.length ≤ 10; omega, by show 1 ≤ (1 + x9); omega, by show (1 + x9) ≤ 3; omega, hr9, hw9, hg9, hW9, hG9⟩, ⟨by show n ≤ nn; omega, by show nn ≤ n + 60; omega⟩, hs9⟩, rfl, ?_⟩
  have h9 : Hp w0 (⟨some ⟨q, 0, none⟩, [.slice a bs.length c, .int .i64 ((nn : Nat) : Int), .int .u64 ((sd : Nat) : Int)], 3, 113⟩ :: ⟨ag, fl gs, cg * 1, 26⟩ :: ⟨aw, fl ws, cw * 1, 26⟩ :: ⟨ah, hd f xss, ch * 1, 23⟩ :: (rents 26 f xss ++ F)) w1 := hw.pick (by apply Pick.cons1; (· repeat (first | exact Rem.here | exact Rem.all | exact Rem.hereS | apply Rem.there | apply Rem.thereS)); apply Pick.cons1; (· repeat (first | exact Rem.here | exact Rem.all | exact Rem.hereS | apply Rem.there | apply Rem.thereS)); apply Pick.cons1; (· repeat (first | exact Rem.here | exact Rem.all | exact Rem.hereS | apply Rem.there | apply Rem.thereS)); apply Pick.cons1; (· repeat (first | exact Rem.here | exact Rem.all | exact Rem.hereS | apply Rem.there | apply Rem.thereS)); apply Pick.app1; (· repeat (first | exact Rem.here | exact Rem.all | exact Rem.hereS | apply Rem.there | apply Rem.thereS)); apply Pick.last; repeat (first | exact Rem.here | exact Rem.all | exact Rem.hereS | apply Rem.there | apply Rem.thereS))
  exact h9.perm' (show ((([⟨some ⟨q, 0, none⟩, [.slice a bs.length c, .int .i64 ((nn : Nat) : Int), .int .u64 ((sd : Nat) : Int)], 3, 113⟩, ⟨ag, fl gs, cg * 1, 26⟩, ⟨aw, fl ws, cw * 1, 26⟩, ⟨ah, hd f xss, ch * 1, 23⟩] : List Ent) ++ rents 26 f xss) ++ F).Perm (F ++ (([⟨some ⟨q, 0, none⟩, [.slice a bs.length c, .int .i64 ((nn : Nat) : Int), .int .u64 ((sd : Nat) : Int)], 3, 113⟩, ⟨ag, fl gs, cg * 1, 26⟩, ⟨aw, fl ws, cw * 1, 26⟩, ⟨ah, hd f xss, ch * 1, 23⟩] : List Ent) ++ rents 26 f xss)) from List.perm_append_comm)
theorem c_b10Design [PhC] {w : World} {a : Option Addr} {c : Nat} {bs : List Int} (hA : Cl w a (bl bs)) (hb : Bytes bs) (hl : bs.length ≤ 2000000) : New Try.prog 21 [.slice a bs.length c] w (fun x : {x : DX // DDok x.xss x.ws x.gs x.n} => x.1.v) (fun x => ⟨x.1.p.2.2.1, fl (x.1.gs), x.1.p.2.2.2 * 1, 26⟩ :: ⟨x.1.p.2.1.1, fl (x.1.ws), x.1.p.2.1.2 * 1, 26⟩ :: ⟨x.1.p.1.1.1, hd x.1.p.1.2 (x.1.xss), x.1.p.1.1.2 * 1, 23⟩ :: rents 26 x.1.p.1.2 (x.1.xss)) := by
  refine New.enter Try.func21 rfl Try.ntmps21 (Nat.le_of_ble_eq_true rfl) ?_
  refine V.seq (V.region ?_)
  refine VL.new1 (.inl rfl) rfl (by decide) (yn_alloc rfl zero30_Gs rfl) ?_
  intro b2
  refine VL.nil (VE.then_wp (V.seq (V.region ?_)))
  refine vr (yr_move rfl rfl) ?_
  refine VL.new1 (.inl rfl) rfl (by decide) (yn_callf rfl known52_Gs (.cons rfl .nil) (fun w hw => c_from)) ?_
  intro b5
  refine vr (yr_assign rfl rfl) ?_
  refine VL.nil (VE.then_wp (V.seq (V.region ?_)))
  refine vr (yr_move rfl rfl) ?_
  refine VL.c (.inl rfl) rfl (by decide) (yc_callf rfl known53_Gs (.cons rfl .nil) (by apply Pick.one; repeat (first | exact Rem.here | apply Rem.there | apply Rem.thereS)) (c_drawOk (n := 0) (sd := 0) hA hb hl (by decide) (by decide))) ?_
  rintro ⟨⟨⟨⟨⟨a7, c7⟩, f7⟩, ⟨p7, q7⟩, ⟨r7, s7⟩⟩, xss7, ws7, gs7, n7, at7, sd7⟩, hd7, hat7, hsd7⟩
  dsimp only at hd7 hat7 hsd7
  refine VL.s (.inl rfl) rfl (yc_store rfl sz30_Gs rfl rfl zz8 (.inr ⟨rfl, rfl⟩) rfl (by first | exact Nat.le_of_ble_eq_true rfl | simp) (by decide) rfl) ?_
  rintro ⟨⟩
  refine VL.nil (VE.then_wp (V.ret ?_))
  refine retC rfl (rv_cellS rfl Try.underlying30 sz30_Gs zz0 rfl rfl rfl) (by nofun) (fun w1 hw => ?_)
  exact ⟨⟨⟨(((a7, c7), f7), (p7, q7), (r7, s7)), xss7, ws7, gs7, n7, at7, sd7⟩, hd7⟩, rfl, (hw.pick (by apply Pick.cons1; (· repeat (first | exact Rem.here | exact Rem.all | exact Rem.hereS | apply Rem.there | apply Rem.thereS)); apply Pick.cons1; (· repeat (first | exact Rem.here | exact Rem.all | exact Rem.hereS | apply Rem.there | apply Rem.thereS)); apply Pick.cons1; (· repeat (first | exact Rem.here | exact Rem.all | exact Rem.hereS | apply Rem.there | apply Rem.thereS)); apply Pick.last; repeat (first | exact Rem.here | exact Rem.all | exact Rem.hereS | apply Rem.there | apply Rem.thereS))).outs (List.Sublist.refl _)⟩
theorem c_b10X [PhC] {w : World} {a : Option Addr} {c m : Nat} {bs : List Int} (hA : Cl w a (bl bs)) (hb : Bytes bs) (hl : bs.length ≤ 2000000) (hm : m ≤ 1000) : New Try.prog 23 [.slice a bs.length c, .int .i64 (m : Int)] w (fun x : {x : (Option Addr × Nat) × List Nat // x.2.length = m ∧ ∀ y ∈ x.2, Q17 y} => .slice x.1.1.1 x.1.2.length x.1.1.2) (fun x => [⟨x.1.1.1, fl x.1.2, x.1.1.2 * 1, 26⟩]) := by
  refine New.enter Try.func23 rfl Try.ntmps23 (Nat.le_of_ble_eq_true rfl) ?_
  refine V.seq (V.region ?_)
  refine vr (yr_assign (u := .slice none 0 0) rfl rfl) ?_
  refine VL.nil (VE.then_wp (V.seq (V.region ?_)))
  refine vr (yr_move rfl rfl) ?_
  refine VL.new1 (.inl rfl) rfl (by decide) (yn_callf rfl known52_Gs (.cons rfl .nil) (fun w hw => c_from)) ?_
  intro b8
  refine vr (yr_assign rfl rfl) ?_
  refine VL.nil (VE.then_wp (V.seq (V.region ?_)))
  refine VL.new1 (.inl rfl) rfl (by decide) (yn_lit rfl Try.underlying23 elt26_Gs rfl (by decide) .nil (by first | (simp; done) | (simp [cn, cn1, cn0]; done)) rfl rfl rfl) ?_
  intro b9
  refine vr (yr_assign rfl rfl) ?_
  refine VL.nil (VE.then_wp (V.seq (V.block ?_)))
  refine V.loopc (G := (List Nat) × (Option Addr) × Nat × Nat × Nat) [(5, _)] (fun ⟨xs, ar, cr, nn, sd⟩ => xs.length ≤ m ∧ (∀ y ∈ xs, Q17 y) ∧ nn ≤ xs.length ∧ sd < 18446744073709551616) (fun ⟨xs, ar, cr, nn, sd⟩ => [⟨ar, fl xs, cr * 1, 26⟩, ⟨some ⟨b8, 0, none⟩, [.slice a bs.length c, .int .i64 ((nn : Nat) : Int), .int .u64 ((sd : Nat) : Int)], 3, 113⟩]) (fun ⟨xs, ar, cr, nn, sd⟩ => [(1, .int .i64 ((m - xs.length : Nat) : Int)), (6, .slice ar xs.length cr)]) (fun ⟨xs, ar, cr, nn, sd⟩ => m - xs.length) ([], some ⟨b9, 0, none⟩, 0, 0, 0) (.cons rfl .nil) (.cons rfl (.cons rfl .nil)) ?_ ?_ ?_
  · exact (fun w hw => by dsimp only; rw [fl_nil]; exact hw.pick (by apply Pick.cons1; (· repeat (first | exact Rem.here | exact Rem.all | exact Rem.hereS | apply Rem.there | apply Rem.thereS)); apply Pick.cons1; (· repeat (first | exact Rem.here | exact Rem.all | exact Rem.hereS | apply Rem.there | apply Rem.thereS)); exact Pick.nil))
  · exact (by exact ⟨Nat.zero_le _, fun y h => (by cases h), Nat.le_refl _, by decide⟩)
  rintro ⟨xs, ar, cr, nn, sd⟩ ⟨hm9, hx9, hn8, hs8⟩
  show V _ _ _ [⟨ar, fl xs, cr * 1, 26⟩, ⟨some ⟨b8, 0, none⟩, [.slice a bs.length c, .int .i64 ((nn : Nat) : Int), .int .u64 ((sd : Nat) : Int)], 3, 113⟩] ([(1, .int .i64 ((m - xs.length : Nat) : Int)), (6, .slice ar xs.length cr)] ++ [(5, _)]) _ _
  refine V.seq (V.seq (V.region ?_))
  refine vr (yr_move rfl rfl) ?_
  refine vr (yr_icmp rfl (.inr (.inr (.inr (.inr (.inl rfl))))) rfl rfl) ?_
  refine VL.nil (VE.then_wp ?_)
  refine V.cond rfl (fun h1 => ?_) (fun h1 => ?_)
  · skip
    replace h1 := ic_gtr h1
    refine V.skip (VE.then_wp (V.seq (V.block (V.region ?_))))
    refine vr (yr_move rfl rfl) ?_
    refine vr (yr_move rfl rfl) ?_
    refine VL.c (.inl rfl) rfl (by decide) (yc_callf rfl known54_Gs (.cons rfl (.cons rfl .nil)) (by apply Pick.one; repeat (first | exact Rem.here | apply Rem.there | apply Rem.thereS)) (c_pick (m := 17) hA hb (by omega) (by omega) (by omega) (by decide) (by decide))) ?_
    rintro ⟨⟨x16, s16⟩, hx16, hs16⟩
    dsimp only at hx16 hs16
    refine vr (yr_int rfl rfl rfl (.inr (.inl ⟨rfl, wrap_in (by (try dsimp only); omega)⟩))) ?_
    refine vr (yr_ofInt rfl Try.underlying2 Try.underlying26 rfl) ?_
    refine vr (show YR _ _ _ (.float .f32 (qw x16)) from (by unfold qw; exact yr_float rfl (.inr (.inr (.inr rfl))) rfl rfl)) ?_
    refine VL.new1 (.inl rfl) rfl (by decide) (yn_lit rfl Try.underlying23 elt26_Gs rfl (by decide) (.cons rfl .nil) (by first | (simp; done) | (simp [cn, cn1, cn0]; done)) rfl rfl rfl) ?_
    intro b20
    refine VL.c (.inl rfl) rfl (by decide) (yc_appendz 1 rfl rfl Try.underlying23 elt26_Gs rfl rfl zz8 zz0 rfl (by rw [fl_length, Nat.mul_one]) rfl (by first | rfl | exact fl_scal _) rfl (by omega) (by omega)) ?_
    rintro ⟨a21, c21⟩
    refine vr (yr_assign rfl rfl) ?_
    refine VL.nil (VE.block_normal (VE.then_wp (V.region ?_)))
    refine vr (yr_move rfl rfl) ?_
    refine vr (yr_int rfl rfl rfl (.inr (.inl ⟨rfl, wrap_in (by (try dsimp only); omega)⟩))) ?_
    refine vr (yr_assign rfl rfl) ?_
    refine VL.nil ?_
    refine VE.round (xs ++ [qw x16], a21, c21, nn + 1, s16) ?_ ?_ ?_ ?_ ?_
    · exact (.cons (congrArg (fun i => some (Value.int .i64 i)) (by rw [List.length_append]; show _ = ((m - (xs.length + 1) : Nat) : Int); omega)) (.cons (congrArg (fun n => some (Value.slice _ n _)) (by rw [List.length_append]; rfl)) .nil))
    · exact (.cons rfl .nil)
    · exact (fun w hw => by dsimp only; rw [← fl_snoc]; exact hw.pick (by apply Pick.cons1; (· repeat (first | exact Rem.here | exact Rem.all | exact Rem.hereS | apply Rem.there | apply Rem.thereS)); apply Pick.cons1; (· repeat (first | exact Rem.here | exact Rem.all | exact Rem.hereS | apply Rem.there | apply Rem.thereS)); exact Pick.nil))
    · dsimp only
      simp only [List.length_append, List.length_cons, List.length_nil, Nat.zero_add]
      exact ⟨by omega, mem_app hx9 (mem_one ⟨x16, hx16, rfl⟩), by omega, hs16⟩
    · dsimp only; rw [List.length_append]; show m - (xs.length + 1) < m - xs.length; omega
  replace h1 := ic_gtr' h1
  refine V.exit ?_
  refine VE.then_exit (VE.then_exit (VE.block_here (VE.then_wp (V.seq (V.region ?_)))))
  refine vr (yr_move rfl rfl) ?_
  refine vr (yr_assign rfl rfl) ?_
  refine VL.nil (VE.then_wp (V.ret ?_))
  refine ret1 rfl rfl (fun w1 hw => ?_)
  exact ⟨⟨((ar, cr), xs), by show xs.length = m; omega, hx9⟩, rfl, (hw.pick (by apply Pick.cons1; (· repeat (first | exact Rem.here | exact Rem.all | exact Rem.hereS | apply Rem.there | apply Rem.thereS)); exact Pick.nil)).outs (List.Sublist.refl _)⟩
theorem c_b10Long [PhC] {w : World} {a b : Option Addr} {c d n m : Nat} : Pure Try.prog 20 [.slice a n c, .slice b m d] w (.bool (decide (1048576 < n) || decide (1048576 < m))) := by
  refine Pure.enter Try.func20 rfl Try.ntmps20 (Nat.le_of_ble_eq_true rfl) ?_
  refine V.seq (V.region ?_)
  refine vr (yr_assign (u := .bool false) rfl rfl) ?_
  refine VL.nil (VE.then_wp (V.seq (V.region ?_)))
  refine vr (yr_move rfl rfl) ?_
  refine vr (yr_len rfl Try.underlying41 rfl) ?_
  refine vr (yr_icmp rfl (.inr (.inr (.inr (.inr (.inl rfl))))) rfl rfl) ?_
  refine vr (yr_move rfl rfl) ?_
  refine VX.split 8 _ rfl (fun h1 => ?_) (fun h1 => ?_)
  · skip
    replace h1 := ic_gtr h1
    refine vn ?_
    refine vn ?_
    refine vn ?_
    refine vr (yr_pick_t (u := .bool true) rfl rfl rfl) ?_
    refine vr (yr_assign rfl rfl) ?_
    refine VL.nil (VE.then_wp (V.ret ?_))
    refine ret1 rfl rfl (fun w1 hw => ?_)
    first
      | exact ⟨congrArg Value.bool (by rw [decide_eq_true (show 1048576 < n by omega)]; rfl), hw.below⟩
      | exact ⟨congrArg Value.bool (by rw [decide_eq_false (show ¬ 1048576 < n by omega), Bool.false_or]; exact decide_eq_decide.2 (by omega)), hw.below⟩
  replace h1 := ic_gtr' h1
  refine VL.r (.inr ⟨_, _, _, rfl, rfl, rfl⟩) rfl (by decide) (yr_move rfl rfl) ?_
  refine VL.r (.inr ⟨_, _, _, rfl, rfl, rfl⟩) rfl (by decide) (yr_len rfl Try.underlying41 rfl) ?_
  refine VL.r (.inr ⟨_, _, _, rfl, rfl, rfl⟩) rfl (by decide) (yr_icmp rfl (.inr (.inr (.inr (.inr (.inl rfl))))) rfl rfl) ?_
  refine vr (yr_pick_f rfl rfl rfl) ?_
  refine vr (yr_assign rfl rfl) ?_
  refine VL.nil (VE.then_wp (V.ret ?_))
  refine ret1 rfl rfl (fun w1 hw => ?_)
  first
    | exact ⟨congrArg Value.bool (by rw [decide_eq_true (show 1048576 < n by omega)]; rfl), hw.below⟩
    | exact ⟨congrArg Value.bool (by rw [decide_eq_false (show ¬ 1048576 < n by omega), Bool.false_or]; exact decide_eq_decide.2 (by omega)), hw.below⟩
theorem c_b10At [PhC] {w : World} {a : Option Addr} {c k m : Nat} {bs : List Int} (hA : Cl w a (bl bs)) (hb : Bytes bs) (hl : bs.length ≤ 2000000) (hm : 1 ≤ m) (hk : k ≤ 100000) : New Try.prog 22 [.slice a bs.length c, .int .i64 (k : Int), .int .i64 (m : Int)] w (fun x : {x : Nat // x < m} => .int .i64 ((x.1 : Nat) : Int)) (fun _ => []) := by
  refine New.enter Try.func22 rfl Try.ntmps22 (Nat.le_of_ble_eq_true rfl) ?_
  refine V.seq (V.region ?_)
  refine vr (yr_assign (u := .int .i64 0) rfl rfl) ?_
  refine VL.nil (VE.then_wp (V.seq (V.seq (V.region ?_))))
  refine vr (yr_move rfl rfl) ?_
  refine vr (yr_icmp rfl (.inr (.inr (.inr (.inl rfl)))) rfl rfl) ?_
  refine VL.nil (VE.then_wp ?_)
  refine V.cond rfl (fun h1 => ?_) (fun h1 => ?_)
  · skip
    replace h1 := ic_leq h1
    refine V.seq (V.region ?_)
    refine vr (yr_assign (u := .int .i64 0) rfl rfl) ?_
    refine VL.nil (VE.then_wp (V.ret (VE.then_ret ?_)))
    refine ret1 rfl rfl (fun w1 hw => ?_)
    first
      | exact ⟨⟨0, by omega⟩, rfl, hw.below, (fun _ h => by cases h), List.Pairwise.nil⟩
      | exact ⟨⟨_ % m, Nat.mod_lt _ (by omega)⟩, rfl, hw.below, (fun _ h => by cases h), List.Pairwise.nil⟩
  replace h1 := ic_leq' h1
  refine V.skip (VE.then_wp (V.seq (V.seq (V.region ?_))))
  refine vr (yr_move rfl rfl) ?_
  refine vr (yr_move rfl rfl) ?_
  refine vr (yr_len rfl Try.underlying41 rfl) ?_
  refine vr (yr_icmp rfl (.inr (.inr (.inl rfl))) rfl rfl) ?_
  refine VL.nil (VE.then_wp ?_)
  refine V.cond rfl (fun h2 => ?_) (fun h2 => ?_)
  · skip
    replace h2 := ic_lss h2
    have hbn := byte_get hb (show k < bs.length by omega)
    refine V.seq (V.region ?_)
    refine vr (yr_move rfl rfl) ?_
    refine vr (yr_move rfl rfl) ?_
    refine vq (yq_idx (k := k) rfl Try.underlying41 sz5_Gs rfl rfl zz0 zz3 (by exact bl_length _) (by omega)) ?_
    refine vq (yq_load (u := .int .u8 (bs.getD k 0)) rfl fb5_Gs rfl zz0 (bl_get (by omega))) ?_
    refine vr (yr_intConv (r := bs.getD k 0) rfl Try.underlying5 Try.underlying2 rfl (wrap_in (by omega))) ?_
    refine vr (yr_move rfl rfl) ?_
    refine vr (yr_remN (bs.getD k 0).toNat m rfl rfl rfl (by rw [Int.toNat_of_nonneg hbn.1]) rfl (by omega)) ?_
    refine vr (yr_assign rfl rfl) ?_
    refine VL.nil (VE.then_wp (V.ret (VE.then_ret ?_)))
    refine ret1 rfl rfl (fun w1 hw => ?_)
    first
      | exact ⟨⟨0, by omega⟩, rfl, hw.below, (fun _ h => by cases h), List.Pairwise.nil⟩
      | exact ⟨⟨_ % m, Nat.mod_lt _ (by omega)⟩, rfl, hw.below, (fun _ h => by cases h), List.Pairwise.nil⟩
  replace h2 := ic_lss' h2
  refine V.skip (VE.then_wp (V.seq (V.region ?_)))
  refine vr (yr_move rfl rfl) ?_
  refine vr (yr_mulN k 37 rfl rfl rfl rfl rfl (by omega)) ?_
  refine vr (yr_addN (k * 37 + 11) rfl rfl rfl (by push_cast; rfl) (by omega)) ?_
  refine vr (yr_move rfl rfl) ?_
  refine vr (yr_remN (k * 37 + 11) m rfl rfl rfl rfl rfl (by omega)) ?_
  refine vr (yr_assign rfl rfl) ?_
  refine VL.nil (VE.then_wp (V.ret ?_))
  refine ret1 rfl rfl (fun w1 hw => ?_)
  first
    | exact ⟨⟨0, by omega⟩, rfl, hw.below, (fun _ h => by cases h), List.Pairwise.nil⟩
    | exact ⟨⟨_ % m, Nat.mod_lt _ (by omega)⟩, rfl, hw.below, (fun _ h => by cases h), List.Pairwise.nil⟩
theorem c_bitsT [PhC] {w : World} {x : Nat} (hx : Can .f32 x) : Pure Try.prog 112 [.float .f32 x] w (.int .i64 (x : Int)) := by
  refine Pure.enter Try.func112 rfl Try.ntmps112 (Nat.le_of_ble_eq_true rfl) ?_
  have hlt : x < 4294967296 := Nat.lt_of_lt_of_le hx.lt (by decide)
  refine V.seq (V.region ?_)
  refine vr (yr_assign (u := .int .i64 0) rfl rfl) ?_
  refine VL.nil (VE.then_wp (V.seq (V.seq (V.region ?_))))
  refine vr (yr_move rfl rfl) ?_
  refine vr (yr_move rfl rfl) ?_
  refine vr (yr_fcmp rfl (.inr (.inl rfl)) rfl rfl) ?_
  refine VL.nil (VE.then_wp ?_)
  refine V.cond rfl (fun h1 => ?_) (fun h1 => ?_)
  · skip
    rw [fne_self] at h1
    refine V.seq (V.region ?_)
    refine vr (yr_assign (u := .int .i64 2143289344) rfl rfl) ?_
    refine VL.nil (VE.then_wp (V.ret (VE.then_ret ?_)))
    refine ret1 rfl rfl (fun w1 hw => ?_)
    exact ⟨by rw [hx.nan h1]; rfl, hw.below⟩
  rw [fne_self] at h1
  refine V.skip (VE.then_wp (V.seq (V.region ?_)))
  refine vr (yr_move rfl rfl) ?_
  refine vq (yq_ext rfl ext116_Gs (.cons rfl .nil) (fun vs w h => ext_bits32 vs w (by assumption) h)) ?_
  refine vr (yr_intConv rfl Try.underlying74 Try.underlying2 rfl (wrap_in (by omega))) ?_
  refine vr (yr_assign rfl rfl) ?_
  refine VL.nil (VE.then_wp (V.ret ?_))
  refine ret1 rfl rfl (fun w1 hw => ?_)
  exact ⟨rfl, hw.below⟩
theorem c_sameT [PhC] {w : World} {x y : Nat} (hx : Can .f32 x) (hy : Can .f32 y) : Pure Try.prog 96 [.float .f32 x, .float .f32 y] w (.bool (x == y)) := by
  refine Pure.enter Try.func96 rfl Try.ntmps96 (Nat.le_of_ble_eq_true rfl) ?_
  refine V.seq (V.region ?_)
  refine vr (yr_assign (u := .bool false) rfl rfl) ?_
  refine VL.nil (VE.then_wp (V.seq (V.region ?_)))
  refine vr (yr_move rfl rfl) ?_
  refine vq (yq_callf rfl known112_Gs (.cons rfl .nil) (fun w hw => (c_bitsT (by first | assumption | exact can_up _ | exact can_fop _ _ _ _ | exact can_of _ (by assumption))))) ?_
  refine vr (yr_move rfl rfl) ?_
  refine vq (yq_callf rfl known112_Gs (.cons rfl .nil) (fun w hw => (c_bitsT (by first | assumption | exact can_up _ | exact can_fop _ _ _ _ | exact can_of _ (by assumption))))) ?_
  refine vr (yr_icmp rfl (.inl rfl) rfl rfl) ?_
  refine vr (yr_assign rfl rfl) ?_
  refine VL.nil (VE.then_wp (V.ret ?_))
  refine ret1 rfl rfl (fun w1 hw => ?_)
  refine ⟨congrArg Value.bool ?_, hw.below⟩
  rw [icmp_eqN]
  rw [Bool.eq_iff_iff]; simp
theorem c_sameNT [PhC] {w : World} {x : Nat} (hx : Can .f32 x) : Pure Try.prog 67 [.float .f32 x, .float .f32 x] w (.bool true) := by
  refine Pure.enter Try.func67 rfl Try.ntmps67 (Nat.le_of_ble_eq_true rfl) ?_
  refine V.seq (V.region ?_)
  refine vr (yr_assign (u := .bool false) rfl rfl) ?_
  refine VL.nil (VE.then_wp (V.seq (V.region ?_)))
  refine vr (yr_move rfl rfl) ?_
  refine vr (yr_move rfl rfl) ?_
  refine vq (yq_callf rfl known96_Gs (.cons rfl (.cons rfl .nil)) (fun w hw => (c_sameT (by first | assumption | exact can_up _ | exact can_fop _ _ _ _ | exact can_of _ (by assumption)) (by first | assumption | exact can_up _ | exact can_fop _ _ _ _ | exact can_of _ (by assumption))))) ?_
  refine vr (yr_assign rfl rfl) ?_
  refine VL.nil (VE.then_wp (V.ret ?_))
  refine ret1 rfl rfl (fun w1 hw => ?_)
  exact ⟨congrArg Value.bool (by simp), hw.below⟩
theorem c_b10List [PhC] {w : World} {a b : Option Addr} {c d : Nat} {xs : List Nat} (hA : Cl w a (fl xs)) (hB : Cl w b (fl xs)) (hX : ∀ x ∈ xs, Can .f32 x) (hn : xs.length ≤ 1050000) : Pure Try.prog 28 [.slice a xs.length c, .slice b xs.length d] w (.bool true) := by
  refine Pure.enter Try.func28 rfl Try.ntmps28 (Nat.le_of_ble_eq_true rfl) ?_
  refine V.seq (V.region ?_)
  refine vr (yr_assign (u := .bool false) rfl rfl) ?_
  refine VL.nil (VE.then_wp (V.seq (V.seq (V.region ?_))))
  refine vr (yr_move rfl rfl) ?_
  refine vr (yr_len rfl Try.underlying23 rfl) ?_
  refine vr (yr_move rfl rfl) ?_
  refine vr (yr_len rfl Try.underlying23 rfl) ?_
  refine vr (yr_icmp rfl (.inr (.inl rfl)) rfl rfl) ?_
  refine VL.nil (VE.then_wp ?_)
  refine V.cond rfl (fun h1 => ?_) (fun h1 => ?_)
  · skip
    replace h1 := ic_neq h1
    exfalso; omega
  replace h1 := ic_neq' h1
  refine V.skip (VE.then_wp (V.seq (V.seq (V.region ?_))))
  refine vr (yr_move rfl rfl) ?_
  refine vr (yr_len rfl Try.underlying23 rfl) ?_
  refine vr (yr_move (u := .int .i64 0) rfl rfl) ?_
  refine VL.nil (VE.then_wp (V.block ?_))
  refine V.loops (G := Nat) [(0, _), (1, _), (12, _)] (fun (k : Nat) => k ≤ xs.length) (fun (k : Nat) => [(13, .int .i64 (k : Int))]) (fun (k : Nat) => xs.length - k) 0 (.cons rfl (.cons rfl (.cons rfl .nil))) (.cons rfl .nil) ?_ ?_
  · exact (Nat.zero_le _)
  rintro k hk9
  show V _ _ _ _ ([(13, .int .i64 (k : Int))] ++ [(0, _), (1, _), (12, _)]) _ _
  refine V.seq (V.region ?_)
  refine vr (yr_icmp rfl (.inr (.inr (.inl rfl))) rfl rfl) ?_
  refine VL.nil (VE.then_wp (V.seq ?_))
  refine V.cond rfl (fun h2 => ?_) (fun h2 => ?_)
  · skip
    replace h2 := ic_lss h2
    refine V.skip (VE.then_wp (V.seq (V.block (V.seq (V.region ?_)))))
    refine vr (yr_move rfl rfl) ?_
    refine vr (yr_assign rfl rfl) ?_
    refine VL.nil (VE.then_wp (V.seq ?_))
    refine V.draw [(0, 0), (1, 0), (2, 0), (3, 0), (4, 0), (5, 0), (6, 0), (7, 0), (8, 0), (9, 0)] mixed_Gs (by kernel_rfl) (by intro j o hj; simp at hj) ?_
    refine sr rfl (yr_move rfl rfl) ?_
    refine sr rfl (yr_move rfl rfl) ?_
    refine sq rfl (yq_idx (k := k) rfl Try.underlying23 sz26_Gs rfl rfl zz0 zz3 (by exact fl_length _) (by omega)) ?_
    refine sq rfl (yq_loadF rfl fb26_Gs rfl zz0 (by omega)) ?_
    refine sr rfl (yr_move rfl rfl) ?_
    refine sr rfl (yr_move rfl rfl) ?_
    refine sq rfl (yq_idx (k := k) rfl Try.underlying23 sz26_Gs rfl rfl zz0 zz3 (by exact fl_length _) (by omega)) ?_
    refine sq rfl (yq_loadF rfl fb26_Gs rfl zz0 (by omega)) ?_
    refine sq rfl (yq_callf rfl known67_Gs (.cons rfl (.cons rfl .nil)) (fun w hw => (c_sameNT (hX _ (getD_mem (by omega)))))) ?_
    refine sr rfl (yr_not rfl rfl) ?_
    refine SW.done ?_
    refine VE.then_wp ?_
    refine V.cond rfl (fun h3 => ?_) (fun h3 => ?_)
    · skip
      replace h3 := bnot_t h3
      cases h3
    replace h3 := bnot_f h3
    refine V.skip (VE.block_normal (VE.then_wp (V.region ?_)))
    refine vr (yr_int rfl rfl rfl (.inl ⟨rfl, wrap_in (by omega)⟩)) ?_
    refine vr (yr_move rfl rfl) ?_
    refine VL.nil ?_
    refine VE.round (k + 1) ?_ ?_ ?_ ?_ ?_
    · exact (.cons rfl .nil)
    · exact (.cons rfl (.cons rfl (.cons rfl .nil)))
    · exact (fun w hw => hw)
    · omega
    · (try dsimp only); omega
  replace h2 := ic_lss' h2
  refine V.exit ?_
  refine VE.then_exit (VE.then_exit (VE.block_here (VE.then_wp (V.seq (V.region ?_)))))
  refine vr (yr_assign (u := .bool true) rfl rfl) ?_
  refine VL.nil (VE.then_wp (V.ret ?_))
  refine ret1 rfl rfl (fun w1 hw => ?_)
  exact ⟨rfl, hw.below⟩
end Go.Proofs.Ytgeflnjjppgooaa.Q

namespace Go.Proofs.Ytgeflnjjppgooaa.Q
open Go.RowKit
set_option linter.unusedVariables false
set_option linter.unusedSimpArgs false
set_option maxRecDepth 20000
set_option maxHeartbeats 800000
attribute [local irreducible] wqList Wq
theorem c_within [PhC] {w : World} {n lo hi : Int} : Pure Try.prog 43 [.int .i64 n, .int .i64 lo, .int .i64 hi] w (.bool (decide (lo ≤ n ∧ n ≤ hi))) := by
  refine Pure.enter Try.func43 rfl Try.ntmps43 (Nat.le_of_ble_eq_true rfl) ?_
  refine V.seq (V.region ?_)
  refine vr (yr_assign (u := .bool false) rfl rfl) ?_
  refine VL.nil (VE.then_wp (V.seq (V.region ?_)))
  refine vr (yr_move rfl rfl) ?_
  refine vr (yr_move rfl rfl) ?_
  refine vr (yr_icmp rfl (.inr (.inr (.inr (.inr (.inr rfl))))) rfl rfl) ?_
  refine vr (yr_move rfl rfl) ?_
  refine VX.split 10 _ rfl (fun h1 => ?_) (fun h1 => ?_)
  · skip
    replace h1 := ic_geq h1
    refine VL.r (.inr ⟨_, _, _, rfl, rfl, rfl⟩) rfl (by decide) (yr_move rfl rfl) ?_
    refine VL.r (.inr ⟨_, _, _, rfl, rfl, rfl⟩) rfl (by decide) (yr_move rfl rfl) ?_
    refine VL.r (.inr ⟨_, _, _, rfl, rfl, rfl⟩) rfl (by decide) (yr_icmp rfl (.inr (.inr (.inr (.inl rfl)))) rfl rfl) ?_
    refine vr (yr_pick_t rfl rfl rfl) ?_
    refine vr (yr_assign rfl rfl) ?_
    refine VL.nil (VE.then_wp (V.ret ?_))
    refine ret1 rfl rfl (fun w1 hw => ?_)
    exact ⟨congrArg Value.bool (in_t (by assumption)), hw.below⟩
  replace h1 := ic_geq' h1
  refine vn ?_
  refine vn ?_
  refine vn ?_
  refine vr (yr_pick_f (u := .bool false) rfl rfl rfl) ?_
  refine vr (yr_assign rfl rfl) ?_
  refine VL.nil (VE.then_wp (V.ret ?_))
  refine ret1 rfl rfl (fun w1 hw => ?_)
  exact ⟨congrArg Value.bool (in_f (by assumption)), hw.below⟩
theorem c_l00Min [PhC] {w : World} {a b : Int} : Pure Try.prog 98 [.int .i64 a, .int .i64 b] w (.int .i64 (min a b)) := by
  refine Pure.enter Try.func98 rfl Try.ntmps98 (Nat.le_of_ble_eq_true rfl) ?_
  refine V.seq (V.region ?_)
  refine vr (yr_assign (u := .int .i64 0) rfl rfl) ?_
  refine VL.nil (VE.then_wp (V.seq (V.seq (V.region ?_))))
  refine vr (yr_move rfl rfl) ?_
  refine vr (yr_move rfl rfl) ?_
  refine vr (yr_icmp rfl (.inr (.inr (.inl rfl))) rfl rfl) ?_
  refine VL.nil (VE.then_wp ?_)
  refine V.cond rfl (fun h1 => ?_) (fun h1 => ?_)
  · skip
    replace h1 := ic_lss h1
    refine V.seq (V.region ?_)
    refine vr (yr_move rfl rfl) ?_
    refine vr (yr_assign rfl rfl) ?_
    refine VL.nil (VE.then_wp (V.ret (VE.then_ret ?_)))
    refine ret1 rfl rfl (fun w1 hw => ?_)
    exact ⟨congrArg (Value.int .i64) (by omega), hw.below⟩
  replace h1 := ic_lss' h1
  refine V.skip (VE.then_wp (V.seq (V.region ?_)))
  refine vr (yr_move rfl rfl) ?_
  refine vr (yr_assign rfl rfl) ?_
  refine VL.nil (VE.then_wp (V.ret ?_))
  refine ret1 rfl rfl (fun w1 hw => ?_)
  exact ⟨congrArg (Value.int .i64) (by omega), hw.below⟩
end Go.Proofs.Ytgeflnjjppgooaa.Q
