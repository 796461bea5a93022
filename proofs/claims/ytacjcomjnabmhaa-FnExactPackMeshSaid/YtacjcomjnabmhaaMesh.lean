/- Meshes: sizes, nodes in order, a function that is called at each node. -/
import Derived.Test.YtacjcomjnabmhaaFlat
import Derived.Test.YtacjcomjnabmhaaSlice
namespace Go.Proofs.Ytacjcomjnabmhaa
open Go.RowKit

def szOk (wi hi de : Int) : Bool := decide (1 ≤ wi ∧ wi ≤ 216) && decide (1 ≤ hi ∧ hi ≤ 216) && decide (1 ≤ de ∧ de ≤ 216) && decide (wi * hi * de ≤ 216)
def meshOk (f : V3) (st : Nat) (wi hi de : Int) (n : Nat) : Bool := fin3 f && above st && szOk wi hi de && decide ((n : Int) = wi * hi * de)
section
variable {wi hi de : Int} {f : V3} {st n : Nat}
theorem mesh_mul (h1 : decide (1 ≤ wi ∧ wi ≤ 216) = true) (h2 : decide (1 ≤ hi ∧ hi ≤ 216) = true) (h3 : decide (1 ≤ de ∧ de ≤ 216) = true) : (1 ≤ wi * hi ∧ wi * hi ≤ 46656) ∧ 1 ≤ wi * hi * de ∧ wi * hi * de ≤ 10077696 := by
  rw [decide_eq_true_eq] at h1 h2 h3
  obtain ⟨W, rfl⟩ : ∃ W : Nat, wi = W := ⟨wi.toNat, by omega⟩
  obtain ⟨H, rfl⟩ : ∃ H : Nat, hi = H := ⟨hi.toNat, by omega⟩
  obtain ⟨D, rfl⟩ : ∃ D : Nat, de = D := ⟨de.toNat, by omega⟩
  have a1 : 1 * 1 ≤ W * H := Nat.mul_le_mul (by omega) (by omega)
  have a2 : W * H ≤ 216 * 216 := Nat.mul_le_mul (by omega) (by omega)
  have a3 : 1 * 1 ≤ W * H * D := Nat.mul_le_mul (by omega) (by omega)
  have a4 : W * H * D ≤ 46656 * 216 := Nat.mul_le_mul (by omega) (by omega)
  have e1 : (W : Int) * H = ((W * H : Nat) : Int) := (Int.natCast_mul W H).symm
  have e2 : (W : Int) * H * D = ((W * H * D : Nat) : Int) := by rw [Int.natCast_mul, Int.natCast_mul]
  rw [e2, e1]
  generalize W * H * D = p at *
  generalize W * H = q at *
  omega
theorem szOk_is (h : szOk wi hi de = true) : ∃ W H D : Nat, wi = W ∧ hi = H ∧ de = D ∧ 1 ≤ W ∧ 1 ≤ H ∧ 1 ≤ D ∧ W ≤ 216 ∧ H ≤ 216 ∧ D ≤ 216 ∧ W * H * D ≤ 216 := by
  unfold szOk at h
  simp only [Bool.and_eq_true, decide_eq_true_eq] at h
  obtain ⟨⟨⟨h1, h2⟩, h3⟩, h4⟩ := h
  obtain ⟨W, rfl⟩ : ∃ W : Nat, wi = W := ⟨wi.toNat, by omega⟩
  obtain ⟨H, rfl⟩ : ∃ H : Nat, hi = H := ⟨hi.toNat, by omega⟩
  obtain ⟨D, rfl⟩ : ∃ D : Nat, de = D := ⟨de.toNat, by omega⟩
  exact ⟨W, H, D, rfl, rfl, rfl, by omega, by omega, by omega, by omega, by omega, by omega, by
    rw [show (W : Int) * H * D = ((W * H * D : Nat) : Int) by rw [Int.natCast_mul, Int.natCast_mul]] at h4
    generalize W * H * D = p at *
    omega⟩
theorem szOk_no1 (h : decide (1 ≤ wi ∧ wi ≤ 216) = false) : false = szOk wi hi de := by unfold szOk; rw [h]; rfl
theorem szOk_no2 (h : decide (1 ≤ hi ∧ hi ≤ 216) = false) : false = szOk wi hi de := by unfold szOk; rw [h, Bool.and_false]; rfl
theorem szOk_no3 (h : decide (1 ≤ de ∧ de ≤ 216) = false) : false = szOk wi hi de := by unfold szOk; rw [h, Bool.and_false]; rfl
theorem szOk_last (h1 : decide (1 ≤ wi ∧ wi ≤ 216) = true) (h2 : decide (1 ≤ hi ∧ hi ≤ 216) = true) (h3 : decide (1 ≤ de ∧ de ≤ 216) = true) : icmp .leq (wi * hi * de) 216 = szOk wi hi de := by unfold szOk; rw [h1, h2, h3]; rfl
theorem szOk_yes (h1 : decide (1 ≤ wi ∧ wi ≤ 216) = true) (h2 : decide (1 ≤ hi ∧ hi ≤ 216) = true) (h3 : decide (1 ≤ de ∧ de ≤ 216) = true) (h4 : wi * hi * de ≤ 216) : szOk wi hi de = true := by rw [← szOk_last h1 h2 h3]; exact decide_eq_true h4
theorem szOk_no4 (h4 : 216 < wi * hi * de) : szOk wi hi de = false := by unfold szOk; rw [show decide (wi * hi * de ≤ 216) = false from decide_eq_false (by omega), Bool.and_false]
theorem meshOk_no1 (h : fin3 f = false) : false = meshOk f st wi hi de n := by unfold meshOk; rw [h]; rfl
theorem meshOk_no2 (h : above st = false) : false = meshOk f st wi hi de n := by unfold meshOk; rw [h, Bool.and_false]; rfl
theorem meshOk_no3 (h : szOk wi hi de = false) : false = meshOk f st wi hi de n := by unfold meshOk; rw [h, Bool.and_false]; rfl
theorem meshOk_last (h1 : fin3 f = true) (h2 : above st = true) (h3 : szOk wi hi de = true) : icmp .eql (n : Int) (wi * hi * de) = meshOk f st wi hi de n := by
  unfold meshOk; rw [h1, h2, h3]
  show ((n : Int) == wi * hi * de) = (true && decide ((n : Int) = wi * hi * de))
  rw [Bool.true_and, Bool.eq_iff_iff, beq_iff_eq, decide_eq_true_eq]
theorem meshOk_is (h : meshOk f st wi hi de n = true) : fin3 f = true ∧ above st = true ∧ szOk wi hi de = true ∧ (n : Int) = wi * hi * de := by
  unfold meshOk at h
  simp only [Bool.and_eq_true, decide_eq_true_eq] at h
  exact ⟨h.1.1.1, h.1.1.2, h.1.2, h.2⟩
/-- A mesh that is valid, its sizes as natural numbers. -/
theorem mesh_open (h : meshOk f st wi hi de n = true) : ∃ W H D : Nat, wi = W ∧ hi = H ∧ de = D ∧ (1 ≤ W ∧ 1 ≤ H ∧ 1 ≤ D) ∧ (W ≤ 216 ∧ H ≤ 216 ∧ D ≤ 216) ∧ W * H * D ≤ 216 ∧ n = W * H * D := by
  obtain ⟨_, _, h3, h4⟩ := meshOk_is h
  obtain ⟨W, H, D, rfl, rfl, rfl, a1, a2, a3, a4, a5, a6, a7⟩ := szOk_is h3
  exact ⟨W, H, D, rfl, rfl, rfl, ⟨a1, a2, a3⟩, ⟨a4, a5, a6⟩, a7, by
    rw [show (W : Int) * H * D = ((W * H * D : Nat) : Int) by rw [Int.natCast_mul, Int.natCast_mul]] at h4
    exact Int.ofNat.inj h4⟩
end

/-! ### nodes in order -/
def nd (W H x y z : Nat) : Nat := x + W * (y + H * z)
section
variable {W H D x y z j : Nat}
theorem nd_facts (hx : x < W) (hy : y < H) (hz : z < D) (hb : W * H * D ≤ 216) : H * z ≤ 216 ∧ y + H * z ≤ 216 ∧ W * (y + H * z) ≤ 216 ∧ nd W H x y z < W * H * D := by
  have h1 : y + H * z < H * D := by
    have : H * z + H ≤ H * D := by rw [← Nat.mul_succ]; exact Nat.mul_le_mul_left _ hz
    omega
  have h2 : x + W * (y + H * z) < W * (H * D) := by
    have : W * (y + H * z) + W ≤ W * (H * D) := by rw [← Nat.mul_succ]; exact Nat.mul_le_mul_left _ h1
    omega
  have h3 : H * D ≤ W * (H * D) := Nat.le_mul_of_pos_left _ (by omega)
  rw [← Nat.mul_assoc] at h2 h3
  refine ⟨by omega, by omega, by omega, h2⟩
theorem nd_div (hx : x < W) (q : Nat) : (x + W * q) / W = q ∧ (x + W * q) % W = x := by
  have hW : 0 < W := by omega
  rw [Nat.add_mul_div_left _ _ hW, Nat.div_eq_of_lt hx, Nat.add_mul_mod_self_left, Nat.mod_eq_of_lt hx, Nat.zero_add]
  exact ⟨rfl, rfl⟩
theorem nd_x (hx : x < W) : nd W H x y z % W = x := (nd_div hx _).2
theorem nd_y (hx : x < W) (hy : y < H) : nd W H x y z / W % H = y := by unfold nd; rw [(nd_div hx _).1]; exact (nd_div hy _).2
theorem nd_z (hx : x < W) (hy : y < H) : nd W H x y z / W / H = z := by unfold nd; rw [(nd_div hx _).1]; exact (nd_div hy _).1
theorem nd_row (h : W * y ≤ j) (h2 : j < W * (y + 1)) : j / W = y := by
  rw [Nat.mul_succ] at h2
  obtain ⟨x, rfl⟩ : ∃ x, j = x + W * y := ⟨j - W * y, by omega⟩
  exact (nd_div (by omega) y).1
theorem nd_end : W + W * (y + H * z) = W * (y + 1 + H * z) := by rw [show y + 1 + H * z = (y + H * z) + 1 by omega, Nat.mul_succ]; omega
theorem nd_endy : W * (H + H * z) = W * (0 + H * (z + 1)) := by rw [Nat.mul_succ, Nat.zero_add, Nat.add_comm]
theorem nd_all : W * (0 + H * D) = W * H * D := by rw [Nat.zero_add, Nat.mul_assoc]
end

section
variable {P : Program} {n : Nat} {w0 : World} {O : List Ent} {E : Env} {o : Oper}
/-- A call of a function value that turns what the call owns. -/
theorem yc_callP {callee : Operand} {args : Array Operand} {ts : Array TypeId} {f : FuncId} {us : List Value} {cs : Array Value} {X : Type} {u : X → Value} {M F0 : List Ent} {M' : X → List Ent} (ho : o.op = .call ⟨.value callee, args, ts⟩) (hk : Known P f) (hc : E.opd callee = some (.func (.func f) #[] cs)) (hx : Opds E args.toList us) (hp : Pick O M F0)
    (h : Mut P f (us ++ cs.toList.map cn) w0 M u M') : YC P w0 O E o u (fun x => M' x ++ F0) := by
  intro ρ w F hE hw
  rw [run_call ho hk hc hE]
  have hw' : Hp w0 ((F ++ F0) ++ M) w := by
    rw [List.append_assoc]
    exact hw.perm' (List.Perm.append_left F hp.perm)
  refine (h w (F ++ F0) hw' _ (args_map ho hx hE)).mono fun e w' ⟨v, h1, x, h2, h3⟩ => ⟨v, h1, x, h2, ?_⟩
  rw [List.append_assoc] at h3
  exact h3.perm' (List.Perm.append_left F List.perm_append_comm)
theorem yr_addN {t ty : TypeId} {x y : Operand} {a b : Int} (r : Nat) (ho : o.op = .binOp .add t x y ty) (hx : E.opd x = some (.int .i64 a)) (hy : E.opd y = some (.int .i64 b)) (h : a + b = (r : Int)) (hb : r ≤ 9223372036854775807) : YR P E o (.int .i64 (r : Int)) := by
  rw [← h]
  exact yr_int ho hx hy (.inl ⟨rfl, wrap_in (by omega)⟩)
theorem yr_subN {t ty : TypeId} {x y : Operand} {a b : Int} (r : Nat) (ho : o.op = .binOp .sub t x y ty) (hx : E.opd x = some (.int .i64 a)) (hy : E.opd y = some (.int .i64 b)) (h : a - b = (r : Int)) (hb : r ≤ 9223372036854775807) : YR P E o (.int .i64 (r : Int)) := by
  rw [← h]
  exact yr_int ho hx hy (.inr (.inl ⟨rfl, wrap_in (by omega)⟩))
theorem yr_func2 {f : Fn} {c1 c2 : Operand} {p1 p2 : Option Addr} (ho : o.op = .makeFunc f #[] #[c1, c2]) (h1 : E.opd c1 = some (.pointer p1)) (h2 : E.opd c2 = some (.pointer p2)) : YR P E o (.func f #[] #[.pointer p1, .pointer p2]) :=
  yr_func ho (fun ρ hE => by simp [cn_pointer (hE.get (x := c1) (by simp [ho, Op.operands]) h1), cn_pointer (hE.get (x := c2) (by simp [ho, Op.operands]) h2)]) (fun _ => rfl)
theorem yr_func3 {f : Fn} {c1 c2 c3 : Operand} {p1 p2 p3 : Option Addr} (ho : o.op = .makeFunc f #[] #[c1, c2, c3]) (h1 : E.opd c1 = some (.pointer p1)) (h2 : E.opd c2 = some (.pointer p2)) (h3 : E.opd c3 = some (.pointer p3)) : YR P E o (.func f #[] #[.pointer p1, .pointer p2, .pointer p3]) :=
  yr_func ho (fun ρ hE => by simp [cn_pointer (hE.get (x := c1) (by simp [ho, Op.operands]) h1), cn_pointer (hE.get (x := c2) (by simp [ho, Op.operands]) h2), cn_pointer (hE.get (x := c3) (by simp [ho, Op.operands]) h3)]) (fun _ => rfl)
theorem yr_func4 {f : Fn} {c1 c2 c3 c4 : Operand} {p1 p2 p3 p4 : Option Addr} (ho : o.op = .makeFunc f #[] #[c1, c2, c3, c4]) (h1 : E.opd c1 = some (.pointer p1)) (h2 : E.opd c2 = some (.pointer p2)) (h3 : E.opd c3 = some (.pointer p3)) (h4 : E.opd c4 = some (.pointer p4)) : YR P E o (.func f #[] #[.pointer p1, .pointer p2, .pointer p3, .pointer p4]) :=
  yr_func ho (fun ρ hE => by simp [cn_pointer (hE.get (x := c1) (by simp [ho, Op.operands]) h1), cn_pointer (hE.get (x := c2) (by simp [ho, Op.operands]) h2), cn_pointer (hE.get (x := c3) (by simp [ho, Op.operands]) h3), cn_pointer (hE.get (x := c4) (by simp [ho, Op.operands]) h4)]) (fun _ => rfl)
theorem Pick.e4 {O1 O2 O3 F : List Ent} {e1 e2 e3 e4 : Ent} (h1 : Rem O [e1] O1) (h2 : Rem O1 [e2] O2) (h3 : Rem O2 [e3] O3) (h4 : Rem O3 [e4] F) : Pick O [e1, e2, e3, e4] F := Pick.take h1 (Pick.take h2 (Pick.take h3 (Pick.take h4 .nil)))
theorem Hp.rot {w : World} {A F : List Ent} {b : Ent} (hw : Hp w0 (A ++ (b :: (F ++ []))) w) : Hp w0 (b :: (F ++ A)) w := by
  rw [List.append_nil] at hw
  exact hw.perm' List.perm_append_comm
end

/-! ### places, values -/
def place3 (f : V3) (st x y z : Nat) : V3 := add3 f (fop .mul .f32 x st, fop .mul .f32 y st, fop .mul .f32 z st)
def mval (vs : List V3) (W H x y z : Nat) : V3 := vs.getD (nd W H x y z) z3
/-- What is told of the nodes in the inside, up to the k-th node. -/
def inK (W H D k : Nat) : Bool := decide (1 ≤ k % W ∧ k % W + 1 < W ∧ 1 ≤ k / W % H ∧ k / W % H + 1 < H ∧ 1 ≤ k / W / H ∧ k / W / H + 1 < D)
def srcAt (vs : List V3) (W H tw x y z : Nat) : Nat :=
  fop .add .f32 (fop .add .f32 (fop .add .f32 0 (fop .quo .f32 (fop .sub .f32 (mval vs W H (x + 1) y z).1 (mval vs W H (x - 1) y z).1) tw)) (fop .quo .f32 (fop .sub .f32 (mval vs W H x (y + 1) z).2.1 (mval vs W H x (y - 1) z).2.1) tw)) (fop .quo .f32 (fop .sub .f32 (mval vs W H x y (z + 1)).2.2 (mval vs W H x y (z - 1)).2.2) tw)
def srcU (vs : List V3) (W H D tw : Nat) : Nat → List Nat
  | 0 => []
  | k + 1 => if inK W H D k then srcU vs W H D tw k ++ [srcAt vs W H tw (k % W) (k / W % H) (k / W / H)] else srcU vs W H D tw k
section
variable {vs : List V3} {W H D tw x y z j k a b : Nat}
theorem srcU_in (hx : x < W) (hy : y < H) (h : 1 ≤ x ∧ x + 1 < W ∧ 1 ≤ y ∧ y + 1 < H ∧ 1 ≤ z ∧ z + 1 < D) : srcU vs W H D tw (nd W H x y z + 1) = srcU vs W H D tw (nd W H x y z) ++ [srcAt vs W H tw x y z] := by
  rw [srcU, if_pos (by unfold inK; rw [nd_x hx, nd_y hx hy, nd_z hx hy]; exact decide_eq_true h), nd_x hx, nd_y hx hy, nd_z hx hy]
theorem srcU_out (hx : x < W) (hy : y < H) (h : ¬ (1 ≤ x ∧ x + 1 < W ∧ 1 ≤ y ∧ y + 1 < H ∧ 1 ≤ z ∧ z + 1 < D)) : srcU vs W H D tw (nd W H x y z + 1) = srcU vs W H D tw (nd W H x y z) := by
  rw [srcU, if_neg (by unfold inK; rw [nd_x hx, nd_y hx hy, nd_z hx hy]; rw [decide_eq_true_eq]; exact h)]
theorem srcU_skip : ∀ (d : Nat), (∀ j, a ≤ j → j < a + d → inK W H D j = false) → srcU vs W H D tw (a + d) = srcU vs W H D tw a
  | 0, _ => rfl
  | d + 1, h => by
    rw [← Nat.add_assoc, srcU, if_neg (by rw [h (a + d) (by omega) (by omega)]; decide)]
    exact srcU_skip d fun j h1 h2 => h j h1 (by omega)
theorem srcU_skip' (hab : a ≤ b) (h : ∀ j, a ≤ j → j < b → inK W H D j = false) : srcU vs W H D tw b = srcU vs W H D tw a := by
  obtain ⟨d, rfl⟩ : ∃ d, b = a + d := ⟨b - a, by omega⟩
  exact srcU_skip d h
theorem inK_x (h : j % W = 0 ∨ W ≤ j % W + 1) : inK W H D j = false := by unfold inK; rw [decide_eq_false_iff_not]; omega
theorem inK_y (h : j / W % H = 0 ∨ H ≤ j / W % H + 1) : inK W H D j = false := by unfold inK; rw [decide_eq_false_iff_not]; omega
theorem inK_z (h : j / W / H = 0 ∨ D ≤ j / W / H + 1) : inK W H D j = false := by unfold inK; rw [decide_eq_false_iff_not]; omega
/-- the first node of a row -/
theorem srcU_x0 (hW : 1 ≤ W) : srcU vs W H D tw (nd W H 1 y z) = srcU vs W H D tw (nd W H 0 y z) := by
  unfold nd
  refine srcU_skip' (by omega) fun j h1 h2 => inK_x (.inl ?_)
  obtain rfl : j = 0 + W * (y + H * z) := by omega
  exact (nd_div (by omega) _).2
/-- the last node of a row -/
theorem srcU_xn (hx : x ≤ W) (hx1 : W ≤ x + 1) : srcU vs W H D tw (nd W H 0 (y + 1) z) = srcU vs W H D tw (nd W H x y z) := by
  have e : nd W H 0 (y + 1) z = W + W * (y + H * z) := by unfold nd; rw [Nat.zero_add, nd_end]
  rw [e]; unfold nd
  refine srcU_skip' (by omega) fun j h1 h2 => inK_x (.inr ?_)
  obtain rfl : j = x + W * (y + H * z) := by omega
  rw [(nd_div (by omega) _).2]; omega
theorem srcU_y0 (hH : 1 ≤ H) : srcU vs W H D tw (nd W H 0 1 z) = srcU vs W H D tw (nd W H 0 0 z) := by
  unfold nd
  have e : W * (1 + H * z) = W * (0 + H * z) + W := by rw [Nat.zero_add, Nat.add_comm 1, Nat.mul_succ]
  refine srcU_skip' (by omega) fun j h1 h2 => inK_y (.inl ?_)
  rw [nd_row (y := 0 + H * z) (by omega) (by rw [Nat.mul_succ]; omega)]
  exact (nd_div (by omega) z).2
theorem srcU_yn (hy : y ≤ H) (hy1 : H ≤ y + 1) : srcU vs W H D tw (nd W H 0 0 (z + 1)) = srcU vs W H D tw (nd W H 0 y z) := by
  have e : nd W H 0 0 (z + 1) = W * (H + H * z) := by unfold nd; rw [Nat.zero_add, nd_endy]
  rw [e]; unfold nd
  rw [Nat.zero_add]
  by_cases h : y = H
  · rw [h]
  · obtain rfl : H = y + 1 := by omega
    have e2 : W * (y + 1 + (y + 1) * z) = W * (y + (y + 1) * z) + W := by rw [show y + 1 + (y + 1) * z = (y + (y + 1) * z) + 1 by omega, Nat.mul_succ]
    refine srcU_skip' (by omega) fun j h1 h2 => inK_y (.inr ?_)
    rw [nd_row (y := y + (y + 1) * z) h1 (by rw [Nat.mul_succ]; omega), (nd_div (by omega) z).2]
    exact Nat.le_refl _
theorem srcU_z0 : srcU vs W H D tw (nd W H 0 0 1) = [] := by
  have h : srcU vs W H D tw (nd W H 0 0 1) = srcU vs W H D tw 0 := by
    refine srcU_skip' (Nat.zero_le _) fun j _ h2 => inK_z (.inl ?_)
    unfold nd at h2
    rw [Nat.zero_add, Nat.zero_add, Nat.mul_one] at h2
    rw [Nat.div_div_eq_div_mul]
    exact Nat.div_eq_of_lt h2
  rw [h]; rfl
theorem srcU_zn (hW : 1 ≤ W) (hH : 1 ≤ H) (hz : z ≤ D) (hz1 : D ≤ z + 1) : srcU vs W H D tw (W * H * D) = srcU vs W H D tw (nd W H 0 0 z) := by
  have e : nd W H 0 0 z = W * H * z := by unfold nd; rw [Nat.zero_add, Nat.zero_add, Nat.mul_assoc]
  rw [e]
  refine srcU_skip' (Nat.mul_le_mul_left _ hz) fun j h1 h2 => inK_z (.inr ?_)
  rw [Nat.div_div_eq_div_mul]
  have hp : 0 < W * H := Nat.mul_pos hW hH
  have : z ≤ j / (W * H) := by rw [Nat.le_div_iff_mul_le hp, Nat.mul_comm]; exact h1
  omega
theorem srcU_length : ∀ k, (srcU vs W H D tw k).length ≤ k
  | 0 => Nat.le_refl _
  | k + 1 => by
    have := srcU_length k
    rw [srcU]; split
    · simp; omega
    · omega
theorem srcU_mono (h : a ≤ b) {v : Nat} (hv : v ∈ srcU vs W H D tw a) : v ∈ srcU vs W H D tw b := by
  obtain ⟨d, rfl⟩ : ∃ d, b = a + d := ⟨b - a, by omega⟩
  clear h
  induction d with
  | zero => exact hv
  | succ d ih =>
    rw [← Nat.add_assoc, srcU]; split
    · exact List.mem_append_left _ ih
    · exact ih
theorem can_srcU : ∀ k, ∀ v ∈ srcU vs W H D tw k, Can .f32 v
  | 0 => fun v hv => by cases hv
  | k + 1 => by
    have ih := can_srcU k
    rw [srcU]; split
    · intro v hv
      rcases List.mem_append.1 hv with h | h
      · exact ih v h
      · rw [List.mem_singleton] at h; subst h; exact can_fop _ _ _ _
    · exact ih
end
/-- The sources. -/
def srcTw (st : Nat) : Nat := fop .mul .f32 1073741824 st
def srcL (st : Nat) (wi hi de : Int) (vs : List V3) : List Nat := srcU vs wi.toNat hi.toNat de.toNat (srcTw st) (wi.toNat * hi.toNat * de.toNat)
def srcOk (f : V3) (st : Nat) (wi hi de : Int) (vs : List V3) : Bool := meshOk f st wi hi de vs.length && (srcL st wi hi de vs).all fin
def srcD (f : V3) (st : Nat) (wi hi de : Int) (vs : List V3) : List Nat := if srcOk f st wi hi de vs then srcL st wi hi de vs else []
section
variable {f : V3} {st : Nat} {wi hi de : Int} {vs : List V3}
theorem srcOk_yes (h : meshOk f st wi hi de vs.length = true) (h2 : (srcL st wi hi de vs).all fin = true) : srcOk f st wi hi de vs = true := by unfold srcOk; rw [h, h2]; rfl
theorem srcOk_no1 (h : meshOk f st wi hi de vs.length = false) : srcOk f st wi hi de vs = false := by unfold srcOk; rw [h]; rfl
theorem srcOk_no2 (h : (srcL st wi hi de vs).all fin = false) : srcOk f st wi hi de vs = false := by unfold srcOk; rw [h, Bool.and_false]
theorem srcD_yes (h : srcOk f st wi hi de vs = true) : srcD f st wi hi de vs = srcL st wi hi de vs := by unfold srcD; rw [h]; rfl
theorem srcD_no (h : srcOk f st wi hi de vs = false) : srcD f st wi hi de vs = [] := by unfold srcD; rw [h]; rfl
theorem can_srcD : ∀ v ∈ srcD f st wi hi de vs, Can .f32 v := by
  unfold srcD; split
  · exact can_srcU _
  · intro v hv; cases hv
theorem srcD_length : (srcD f st wi hi de vs).length ≤ 216 := by
  unfold srcD; split
  · rename_i h
    unfold srcOk at h
    rw [Bool.and_eq_true] at h
    obtain ⟨W, H, D, rfl, rfl, rfl, _, _, h1, _⟩ := mesh_open h.1
    exact Nat.le_trans (srcU_length _) h1
  · simp
end
end Go.Proofs.Ytacjcomjnabmhaa
