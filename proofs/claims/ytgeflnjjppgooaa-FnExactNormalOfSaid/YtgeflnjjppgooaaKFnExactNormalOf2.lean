/- Own texts of this claim, merged: Kit, Flo, Nar, Shut, Nest, Open, Nmk, Vw. -/
import Derived.Deep.Slices
import Derived.Laws.Cover2
import Derived.Carry
import Derived.ProofKit
import GoSem.Dispatch
import Derived.Conc.Events
import Derived.Conc.CompanyDraw
import Derived.Test.YtgeflnjjppgooaaKFnExactNormalOf1
namespace Go.Proofs.Ytgeflnjjppgooaa
open Go.RowKit

/-! ### rows of floats and the like -/
def fl (xs : List Nat) : List Value := xs.map (Value.float .f32)
theorem fl_length (xs : List Nat) : (fl xs).length = xs.length := by simp [fl]
theorem fl_get {xs : List Nat} {k : Nat} (h : k < xs.length) : (fl xs)[k]? = some (.float .f32 (xs.getD k 0)) := by
  simp [fl, h]
theorem fl_set (xs : List Nat) (k x : Nat) : (fl xs).set k (.float .f32 x) = fl (xs.set k x) := by simp [fl, List.map_set]
theorem fl_zeros (m : Nat) : cycle [Value.float .f32 0] m = fl (List.replicate m 0) := by
  induction m with
  | zero => rfl
  | succ m ih => simp [cycle, ih, fl, List.replicate_succ]

section
variable {P : Program} {n : Nat} {w0 : World} {O : List Ent} {E : Env} {Q : Exit → Act → World → Prop} {o : Oper}

/-- x[k], the index a number that counts -/
theorem yq_idx {t e : TypeId} {x y : Operand} {a : Option Addr} {m c k : Nat} {i : Int} {kk : IntKind} {us : List Value} (ho : o.op = .indexAddr t x y) (ht : P.underlying t = some (.slice e)) (hz : (P.info? e).map (·.size) = some 1)
    (hx : E.opd x = some (.slice a m c)) (hy : E.opd y = some (.int kk i)) (hs : Sees w0 O a us) (hi : i = (k : Int)) (hl : us.length = m) (h1 : k < m) : YQ P w0 O E o (.pointer (some (adr a k))) := by
  subst hi
  have := yq_indexAddr (k := kk) ho ht hz hx hy hs (by intro h; subst h; simp at hl; omega) (Int.natCast_nonneg k) (by omega)
  simpa using this
theorem yq_loadF {t : TypeId} {x : Operand} {a : Option Addr} {k : Nat} {xs : List Nat} (ho : o.op = .load t x) (ht : flatB P t = true) (hx : E.opd x = some (.pointer (some (adr a k)))) (hs : Sees w0 O a (fl xs)) (hk : k < xs.length) : YQ P w0 O E o (.float .f32 (xs.getD k 0)) :=
  yq_load ho ht hx hs (fl_get hk)

/-! ### further rules -/
theorem V.condT {c : Operand} {x y : Code} (hc : E.opd c = some (.bool true)) (h : V P n w0 O E x Q) : V P n w0 O E (.cond c x y) Q := V.cond hc (fun _ => h) (fun h => by cases h)
theorem V.condF {c : Operand} {x y : Code} (hc : E.opd c = some (.bool false)) (h : V P n w0 O E y Q) : V P n w0 O E (.cond c x y) Q := V.cond hc (fun h => by cases h) (fun _ => h)
theorem VE.fall {fn : Func} {R : Value → World → Prop} (h : VE n w0 O E (Ends P fn R) .ret) : VE n w0 O E (Ends P fn R) .normal := h
theorem VL.r0 {ops : Array Oper} {rest : List Oper} {u : Value} (hg : Wants ops E o) (hd : o.dst = none) (hy : YR P E o u) (h : VL P n w0 O E ops Q rest) : VL P n w0 O E ops Q (o :: rest) := by
  intro a w ha hw
  refine wpList_step fun K hK => ?_
  rw [if_pos (hg.wanted ha)]
  unfold Oper.wp
  refine (hy a.eval w (ha.ev _)).upon fun v w' hv => hK _ _ ?_
  exact h _ _ (by rw [hd]; exact ha) (hw.ext hv.2)

/-- A product of two numbers that are not negative. -/
theorem yr_mulN {t ty : TypeId} {x y : Operand} {p q : Int} (a b : Nat) (ho : o.op = .binOp .mul t x y ty) (hx : E.opd x = some (.int .i64 p)) (hy : E.opd y = some (.int .i64 q)) (hp : p = (a : Int)) (hq : q = (b : Int)) (hb : a * b ≤ 9223372036854775807) : YR P E o (.int .i64 ((a * b : Nat) : Int)) := by
  subst hp; subst hq
  have := yr_int (P := P) (r := (a : Int) * (b : Int)) ho hx hy (.inr (.inr ⟨rfl, IntWalk.i64_in _ (by rw [← Int.natCast_mul]; omega)⟩))
  rwa [← Int.natCast_mul] at this
/-! ### functions that the model gives -/
/-! ### loops -/
inductive Cov (E : Env) : Env → Prop
  | nil : Cov E []
  | cons {t : Nat} {u : Value} {E' : Env} : E.get t = some u → Cov E E' → Cov E ((t, u) :: E')
theorem Cov.get {E E' : Env} (h : Cov E E') : ∀ t u, E'.get t = some u → E.get t = some u := by
  induction h with
  | nil => intro t u h; simp [Env.get] at h
  | cons h1 _ ih =>
    intro t u h
    simp only [Env.get] at h
    split at h
    · rename_i hb
      cases h
      obtain rfl := Nat.eq_of_beq_eq_true hb
      exact h1
    · exact ih t u h
theorem Cov.append {E A B : Env} (h : Cov E A) (k : Cov E B) : Cov E (A ++ B) := by
  induction h with
  | nil => exact k
  | cons h1 _ ih => exact .cons h1 ih

/-- What a round leads to: the head again, nearer to the end. -/
def RoundQ {G : Type} (n : Nat) (w0 : World) (Ec : Env) (I : G → Prop) (Og : G → List Ent) (Ev' : G → Env) (μ : G → Nat) (g : G) : Act → World → Prop :=
  fun a w => ∃ g', I g' ∧ Models n (Ev' g' ++ Ec) a ∧ Hp w0 (Og g') w ∧ μ g' < μ g
theorem V.loopc {G : Type} {body : Code} (Ec : Env) (I : G → Prop) (Og : G → List Ent) (Ev' : G → Env) (μ : G → Nat) (g0 : G)
    (hc : Cov E Ec) (hE : Cov E (Ev' g0)) (hO : ∀ w, Hp w0 O w → Hp w0 (Og g0) w) (h0 : I g0)
    (round : ∀ g, I g → V P n w0 (Og g) (Ev' g ++ Ec) body (Exit.then (RoundQ n w0 Ec I Og Ev' μ g) Q)) :
    V P n w0 O E (.loop body) Q := V.loop I Og Ev' Ec μ g0 (hE.append hc).get hO h0 round

/-- .. what is owned stays as it is -/
theorem V.loops {G : Type} {body : Code} (Ec : Env) (I : G → Prop) (Ev' : G → Env) (μ : G → Nat) (g0 : G)
    (hc : Cov E Ec) (hE : Cov E (Ev' g0)) (h0 : I g0)
    (round : ∀ g, I g → V P n w0 O (Ev' g ++ Ec) body (Exit.then (RoundQ n w0 Ec I (fun _ => O) Ev' μ g) Q)) :
    V P n w0 O E (.loop body) Q := V.loopc Ec I (fun _ => O) Ev' μ g0 hc hE (fun _ h => h) h0 round

theorem VE.round {G : Type} {Ec : Env} {I : G → Prop} {Og : G → List Ent} {Ev' : G → Env} {μ : G → Nat} {g : G} (g' : G)
    (hE : Cov E (Ev' g')) (hc : Cov E Ec) (hO : ∀ w, Hp w0 O w → Hp w0 (Og g') w) (hI : I g') (hμ : μ g' < μ g) :
    VE n w0 O E (Exit.then (RoundQ n w0 Ec I Og Ev' μ g) Q) .normal :=
  fun _ w ha hw => ⟨g', hI, ha.mono (hE.append hc).get, hO w hw, hμ⟩

theorem VX.own {O' : List Ent} {R : Act → World → Prop} (hO : ∀ w, Hp w0 O w → Hp w0 O' w) (h : VX n w0 O' E R) : VX n w0 O E R := h.mono (fun _ _ h => h) hO
end

/-! ### what a call hands back -/
theorem Hp.out1 {w0 w1 : World} {e : Ent} {O : List Ent} (h : Hp w0 (e :: O) w1) : Below w0.heap.size w0 w1 ∧ (∀ f ∈ [e], f.at w0.heap.size w1) ∧ [e].Pairwise Ent.apart :=
  ⟨h.below, fun f hf => h.ents f (by rw [List.mem_singleton] at hf; subst hf; exact List.mem_cons_self), List.pairwise_singleton _ _⟩
theorem Hp.outs {w0 w1 : World} {N O : List Ent} (h : Hp w0 O w1) (hs : N.Sublist O) : Below w0.heap.size w0 w1 ∧ (∀ f ∈ N, f.at w0.heap.size w1) ∧ N.Pairwise Ent.apart :=
  ⟨h.below, fun f hf => h.ents f (hs.subset hf), h.apart.sublist hs⟩

theorem Sees.at {w0 : World} {O : List Ent} {a : Option Addr} {us : List Value} {cap : Nat} {ty : TypeId} (i : Nat) (h : O[i]? = some ⟨a, us, cap, ty⟩) : Sees w0 O a us := Sees.own (List.mem_of_getElem? h)

theorem Pick.one {O F : List Ent} {e : Ent} (h : Rem O [e] F) : Pick O [e] F := Pick.take h .nil

theorem Pick.two {O O1 F R : List Ent} {e : Ent} (h : Rem O [e] O1) (h2 : Rem O1 R F) : Pick O (e :: R) F := Pick.take h (by simpa using Pick.take h2 .nil)
theorem Pick.four {O O1 O2 O3 F R : List Ent} {e1 e2 e3 : Ent} (h1 : Rem O [e1] O1) (h2 : Rem O1 [e2] O2) (h3 : Rem O2 [e3] O3) (h4 : Rem O3 R F) : Pick O (e1 :: e2 :: e3 :: R) F := Pick.take h1 (Pick.take h2 (Pick.two h3 h4))

theorem Rem.all {S : List Ent} : Rem S S [] := by simpa using (Rem.hereS (S := S) (O := []))
/-- What a function that turns its caller's blocks hands back, in the caller's order. -/
theorem Hp.take {w0 w : World} {O M F F' : List Ent} (hw : Hp w0 O w) (h : Pick O M F') (hs : F.Sublist F') : Hp w0 (F ++ M) w := (hw.perm' h.perm).sub (hs.append (List.Sublist.refl M))

/-! ### lists -/
theorem take_set_succ {ys xs : List Nat} {k : Nat} (hl : ys.length = xs.length) (ht : ys.take k = xs.take k) (hk : k < xs.length) : (ys.set k (xs.getD k 0)).take (k + 1) = xs.take (k + 1) := by
  apply List.ext_getElem?
  intro j
  have hj := congrArg (·[j]?) ht
  simp only [List.getElem?_take] at hj ⊢
  by_cases h1 : j < k
  · rw [if_pos h1, if_pos h1] at hj
    rw [if_pos (by omega), if_pos (by omega), List.getElem?_set_ne (by omega), hj]
  · by_cases h2 : j = k
    · subst h2
      rw [if_pos (by omega), if_pos (by omega), List.getElem?_set_self (by omega)]
      simp [hk]
    · rw [if_neg (by omega), if_neg (by omega)]
theorem take_all {ys xs : List Nat} {k : Nat} (hl : ys.length = xs.length) (ht : ys.take k = xs.take k) (hk : xs.length ≤ k) : ys = xs := by
  rwa [List.take_of_length_le (by omega), List.take_of_length_le hk] at ht

theorem getD_mem {xs : List Nat} {k : Nat} (h : k < xs.length) : xs.getD k 0 ∈ xs := by simp [h]
theorem take_succ_eq {xs ys : List Nat} {k : Nat} (ht : xs.take k = ys.take k) (hx : k < xs.length) (hy : k < ys.length) (h : xs.getD k 0 = ys.getD k 0) : xs.take (k + 1) = ys.take (k + 1) := by
  rw [List.take_succ_eq_append_getElem hx, List.take_succ_eq_append_getElem hy, ht]
  simp [hx, hy] at h
  rw [h]

/-! ### comparisons -/
theorem bnot_t {b : Bool} (h : (!b) = true) : b = false := by simpa using h
theorem bnot_f {b : Bool} (h : (!b) = false) : b = true := by simpa using h
theorem ic_lss {a b : Int} (h : icmp .lss a b = true) : a < b := of_decide_eq_true h
theorem ic_lss' {a b : Int} (h : icmp .lss a b = false) : b ≤ a := by have := of_decide_eq_false h; omega
theorem ic_leq {a b : Int} (h : icmp .leq a b = true) : a ≤ b := of_decide_eq_true h
theorem ic_gtr {a b : Int} (h : icmp .gtr a b = true) : b < a := of_decide_eq_true h
theorem ic_gtr' {a b : Int} (h : icmp .gtr a b = false) : a ≤ b := by have := of_decide_eq_false h; omega
theorem ic_geq {a b : Int} (h : icmp .geq a b = true) : b ≤ a := of_decide_eq_true h
theorem ic_geq' {a b : Int} (h : icmp .geq a b = false) : a < b := by have := of_decide_eq_false h; omega
theorem ic_eql {a b : Int} (h : icmp .eql a b = true) : a = b := by simpa [icmp] using h
theorem ic_neq {a b : Int} (h : icmp .neq a b = true) : a ≠ b := by simpa [icmp] using h
theorem ic_neq' {a b : Int} (h : icmp .neq a b = false) : a = b := by simpa [icmp] using h

theorem wrap_in {a : Int} (h : -9223372036854775808 ≤ a ∧ a ≤ 9223372036854775807) : IntKind.i64.wrap a = a := IntWalk.i64_in a h

theorem gset {xs : List Nat} {j v : Nat} (h : j < xs.length) (i : Nat) : (xs.set j v).getD i 0 = if i = j then v else xs.getD i 0 := by
  simp only [List.getD, List.getElem?_set]
  by_cases e : j = i
  · subst e; simp [h]
  · rw [if_neg e, if_neg (fun h => e h.symm)]
theorem ext_getD {xs ys : List Nat} (hl : xs.length = ys.length) (h : ∀ i, i < xs.length → xs.getD i 0 = ys.getD i 0) : xs = ys := by
  apply List.ext_getElem hl
  intro i h1 h2
  have := h i h1
  simpa [List.getD, h1, h2] using this
theorem getD_range (n : Nat) (f : Nat → Nat) {i : Nat} (h : i < n) : ((List.range n).map f).getD i 0 = f i := by
  simp [List.getD, h]
theorem idx_lt {n j k : Nat} (hj : j < n) (hk : k < n) : j * n + k < n * n := by
  have : (j + 1) * n ≤ n * n := Nat.mul_le_mul_right n hj
  rw [Nat.add_mul] at this
  omega
theorem mul_small {a b : Nat} (ha : a ≤ 2147483648) (hb : b ≤ 2147483648) : a * b ≤ 4611686018427387904 := Nat.mul_le_mul ha hb

end Go.Proofs.Ytgeflnjjppgooaa


namespace Go.Proofs.Ytgeflnjjppgooaa
open Go.RowKit

theorem pow_pos' (n : Nat) : 0 < 2 ^ n := Nat.pow_pos (by decide)

/-- how many units a rung stands for -/
def units (f : Ieee.Format) (r : Nat) : Nat := if r < f.binade then r else (f.binade + r % f.binade) * 2 ^ (r / f.binade - 1)

theorem units_bounds (f : Ieee.Format) {r : Nat} (h : f.binade ≤ r) : f.binade * 2 ^ (r / f.binade - 1) ≤ units f r ∧ units f r < f.binade * 2 ^ (r / f.binade) := by
  have hb : 0 < f.binade := pow_pos' _
  have hq : 1 ≤ r / f.binade := (Nat.le_div_iff_mul_le hb).2 (by omega)
  have hm := Nat.mod_lt r hb
  have hp := pow_pos' (r / f.binade - 1)
  unfold units
  rw [if_neg (by omega)]
  constructor
  · exact Nat.mul_le_mul_right _ (by omega)
  · have e : r / f.binade = (r / f.binade - 1) + 1 := by omega
    rw [e, Nat.pow_succ, Nat.add_sub_cancel, Nat.mul_comm (2 ^ (r / f.binade - 1)) 2, ← Nat.mul_assoc]
    exact Nat.mul_lt_mul_of_pos_right (by omega) hp

theorem units_inj (f : Ieee.Format) {r s : Nat} (h : units f r = units f s) : r = s := by
  have hb : 0 < f.binade := pow_pos' _
  have key : ∀ r s, r / f.binade < s / f.binade → units f r < units f s := by
    intro r s hlt
    have hs : f.binade ≤ s := by
      have := (Nat.le_div_iff_mul_le (x := 1) hb).1 (Nat.lt_of_le_of_lt (Nat.zero_le _) hlt)
      omega
    have h2 := (units_bounds f hs).1
    by_cases hr : r < f.binade
    · have : units f r = r := by unfold units; rw [if_pos hr]
      have hp := pow_pos' (s / f.binade - 1)
      have : f.binade ≤ f.binade * 2 ^ (s / f.binade - 1) := Nat.le_mul_of_pos_right _ hp
      omega
    · have h1 := (units_bounds f (Nat.le_of_not_lt hr)).2
      have : f.binade * 2 ^ (r / f.binade) ≤ f.binade * 2 ^ (s / f.binade - 1) := Nat.mul_le_mul_left _ (Nat.pow_le_pow_right (by decide) (by omega))
      omega
  rcases Nat.lt_trichotomy (r / f.binade) (s / f.binade) with hlt | heq | hgt
  · have := key r s hlt; omega
  · have h3 : r % f.binade = s % f.binade := by
      unfold units at h
      by_cases hr : r < f.binade
      · have hs : s < f.binade := by
          rw [Nat.div_eq_of_lt hr] at heq
          rcases Nat.lt_or_ge s f.binade with h' | h'
          · exact h'
          · have := (Nat.le_div_iff_mul_le (x := 1) (y := s) hb).2 (by omega); omega
        rw [if_pos hr, if_pos hs] at h
        rw [h]
      · have hs : ¬ s < f.binade := by
          intro hs
          rw [Nat.div_eq_of_lt hs] at heq
          have := (Nat.le_div_iff_mul_le (x := 1) (y := r) hb).2 (by omega); omega
        rw [if_neg hr, if_neg hs, heq] at h
        have := Nat.eq_of_mul_eq_mul_right (pow_pos' _) h
        omega
    have e1 := Nat.div_add_mod r f.binade
    have e2 := Nat.div_add_mod s f.binade
    rw [heq, h3] at e1
    omega
  · have := key s r hgt; omega

def sgn (f : Ieee.Format) (x : Nat) : Bool := x / f.signWeight % 2 == 1
def rng (f : Ieee.Format) (x : Nat) : Nat := x % f.signWeight

/-- A word that stands for a number: its mag and place, in units. -/
theorem read_number (f : Ieee.Format) {x : Nat} (h : rng f x < f.infRung) : ∃ m e, f.read x = .number (sgn f x) m (f.leastPlace + (e : Nat)) ∧ m * 2 ^ e = units f (rng f x) := by
  unfold Ieee.Format.read units rng at *
  simp only
  split
  · exact ⟨x % f.signWeight, 0, by simp [sgn], by simp⟩
  · exact ⟨f.binade + x % f.signWeight % f.binade, x % f.signWeight / f.binade - 1, rfl, rfl⟩
theorem binade_le (k : FloatKind) : k.format.binade ≤ k.format.infRung := by cases k <;> decide
theorem read_inf (k : FloatKind) {x : Nat} (h : rng k.format x = k.format.infRung) : k.format.read x = .infinity (sgn k.format x) := by
  have hb := binade_le k
  unfold Ieee.Format.read rng at *
  simp only
  rw [h, if_neg (by omega), if_neg (by omega), if_pos rfl]; rfl
theorem read_big (k : FloatKind) {x : Nat} (h : k.format.infRung < rng k.format x) : fnan k x = true := by
  have hb := binade_le k
  unfold fnan FloatKind.decode Ieee.Format.read rng at *
  simp only
  rw [if_neg (by omega), if_neg (by omega), if_neg (by omega)]; rfl
theorem word_eq (k : FloatKind) {x y : Nat} (hx : x < 2 ^ k.format.width) (hy : y < 2 ^ k.format.width) (hs : sgn k.format x = sgn k.format y) (hr : rng k.format x = rng k.format y) : x = y := by
  rw [width_pos] at hx hy
  have hp : 0 < k.format.signWeight := pow_pos' _
  unfold sgn at hs
  unfold rng at hr
  have h1 : x / k.format.signWeight < 2 := (Nat.div_lt_iff_lt_mul hp).2 hx
  have h2 : y / k.format.signWeight < 2 := (Nat.div_lt_iff_lt_mul hp).2 hy
  rw [Nat.mod_eq_of_lt h1, Nat.mod_eq_of_lt h2] at hs
  have h3 : x / k.format.signWeight = y / k.format.signWeight := by
    generalize x / k.format.signWeight = a at *
    generalize y / k.format.signWeight = b at *
    have ha : a = 0 ∨ a = 1 := by omega
    have hb : b = 0 ∨ b = 1 := by omega
    rcases ha with rfl | rfl <;> rcases hb with rfl | rfl <;> simp at hs <;> rfl
  have e1 := Nat.div_add_mod x k.format.signWeight
  have e2 := Nat.div_add_mod y k.format.signWeight
  rw [h3, hr] at e1
  omega

/-- a canonical word -/
def Can (k : FloatKind) (x : Nat) : Prop := cb k x = x ∧ x < 2 ^ k.format.width
theorem Can.lt {k : FloatKind} {x : Nat} (h : Can k x) : x < 2 ^ k.format.width := h.2
theorem Can.nan {k : FloatKind} {x : Nat} (h : Can k x) (hn : fnan k x = true) : x = qn k := by rw [← cb_of_nan hn]; exact h.1.symm
theorem can_cb (k : FloatKind) {x : Nat} (h : x < 2 ^ k.format.width) : Can k (cb k x) := ⟨cb_idem k x, cb_lt k h⟩

theorem rng_le {k : FloatKind} {x : Nat} (h : fnan k x = false) : rng k.format x ≤ k.format.infRung := by
  rcases Nat.lt_or_ge k.format.infRung (rng k.format x) with h' | h'
  · rw [read_big k h'] at h; cases h
  · exact h'

theorem signed_val (s : Bool) (m a : Nat) : Ieee.signed s m a = if s then -((m * 2 ^ a : Nat) : Int) else ((m * 2 ^ a : Nat) : Int) := by
  unfold Ieee.signed; rw [Nat.shiftLeft_eq]

/-- How two numbers compare, in units. -/
def sval (f : Ieee.Format) (x : Nat) : Int := if sgn f x then -(units f (rng f x) : Int) else (units f (rng f x) : Int)
theorem order_number {k : FloatKind} {x y : Nat} (hx : rng k.format x < k.format.infRung) (hy : rng k.format y < k.format.infRung) : k.format.order x y = some (compare (sval k.format x) (sval k.format y)) := by
  obtain ⟨m, a, h1, h2⟩ := read_number k.format hx
  obtain ⟨m', a', h3, h4⟩ := read_number k.format hy
  unfold Ieee.Format.order
  rw [h1, h3]
  simp only [Ieee.Datum.order, signed_val, Option.some.injEq]
  unfold sval
  rw [← h2, ← h4]
  -- the place that both have
  generalize hc : min a a' = c
  have e1 : (k.format.leastPlace + (a : Int) - min (k.format.leastPlace + (a : Int)) (k.format.leastPlace + (a' : Int))).toNat = a - c := by omega
  have e2 : (k.format.leastPlace + (a' : Int) - min (k.format.leastPlace + (a : Int)) (k.format.leastPlace + (a' : Int))).toNat = a' - c := by omega
  rw [e1, e2]
  have e3 : m * 2 ^ a = m * 2 ^ (a - c) * 2 ^ c := by rw [Nat.mul_assoc, ← Nat.pow_add]; congr 2; omega
  have e4 : m' * 2 ^ a' = m' * 2 ^ (a' - c) * 2 ^ c := by rw [Nat.mul_assoc, ← Nat.pow_add]; congr 2; omega
  rw [e3, e4]
  have hp : (0 : Int) < ((2 ^ c : Nat) : Int) := by exact_mod_cast pow_pos' c
  generalize m * 2 ^ (a - c) = u
  generalize m' * 2 ^ (a' - c) = v
  have key : ∀ p q : Int, compare p q = compare (p * ((2 ^ c : Nat) : Int)) (q * ((2 ^ c : Nat) : Int)) := by
    intro p q
    generalize ((2 ^ c : Nat) : Int) = t at hp
    simp only [compare, compareOfLessAndEq]
    have l1 : p < q ↔ p * t < q * t := ⟨fun h => Int.mul_lt_mul_of_pos_right h hp, fun h => Int.lt_of_mul_lt_mul_right h (Int.le_of_lt hp)⟩
    have l2 : p = q ↔ p * t = q * t := ⟨fun h => by rw [h], fun h => Int.eq_of_mul_eq_mul_right (Int.ne_of_gt hp) h⟩
    by_cases c1 : p < q
    · rw [if_pos c1, if_pos (l1.1 c1)]
    · rw [if_neg c1, if_neg (fun h => c1 (l1.2 h))]
      by_cases c2 : p = q
      · rw [if_pos c2, if_pos (l2.1 c2)]
      · rw [if_neg c2, if_neg (fun h => c2 (l2.2 h))]
  have hs : ∀ (s : Bool) (u : Nat), (if s = true then -((u * 2 ^ c : Nat) : Int) else ((u * 2 ^ c : Nat) : Int)) = (if s = true then -(u : Int) else (u : Int)) * ((2 ^ c : Nat) : Int) := by
    intro s u
    cases s
    · simp only [Bool.false_eq_true, if_false, Int.natCast_mul]
    · simp only [if_true, Int.natCast_mul, Int.neg_mul]
  rw [hs, hs, ← key]

theorem compare_eq {a b : Int} : compare a b = .eq ↔ a = b := by
  simp only [compare, compareOfLessAndEq]
  by_cases h : a < b
  · rw [if_pos h]; constructor
    · intro h'; cases h'
    · intro h'; omega
  · rw [if_neg h]
    by_cases h2 : a = b
    · rw [if_pos h2]; exact ⟨fun _ => h2, fun _ => rfl⟩
    · rw [if_neg h2]; constructor
      · intro h'; cases h'
      · intro h'; exact absurd h' h2

theorem order_self {k : FloatKind} {x : Nat} (h : fnan k x = false) : k.format.order x x = some .eq := by
  rcases Nat.lt_or_ge (rng k.format x) k.format.infRung with h' | h'
  · rw [order_number h' h', Option.some.injEq, compare_eq]
  · have := rng_le h
    have hr := read_inf k (x := x) (by omega)
    unfold Ieee.Format.order
    rw [hr]
    cases sgn k.format x <;> rfl

theorem fne_self (k : FloatKind) (x : Nat) : fcmp .neq k x x = fnan k x := by
  cases h : fnan k x
  · simp [fcmp, order_self h]
  · simp [fcmp, order_nan_left h]
/-- is it one of the zeros -/
def isz (k : FloatKind) (x : Nat) : Bool := rng k.format x == 0
theorem units_zero (f : Ieee.Format) {r : Nat} : units f r = 0 ↔ r = 0 := by
  constructor
  · intro h
    have h0 : units f 0 = 0 := by unfold units; rw [if_pos (show 0 < f.binade from pow_pos' _)]
    exact units_inj f (h.trans h0.symm)
  · intro h; subst h; unfold units; rw [if_pos (show 0 < f.binade from pow_pos' _)]

theorem feq_iff {k : FloatKind} {x y : Nat} (hx : Can k x) (hy : Can k y) : fcmp .eql k x y = true ↔ (fnan k x = false ∧ fnan k y = false ∧ (x = y ∨ (isz k x = true ∧ isz k y = true))) := by
  cases hnx : fnan k x
  · cases hny : fnan k y
    · simp only [fcmp, beq_iff_eq, true_and]
      have rx := rng_le hnx
      have ry := rng_le hny
      rcases Nat.lt_or_ge (rng k.format x) k.format.infRung with hx' | hx'
      · rcases Nat.lt_or_ge (rng k.format y) k.format.infRung with hy' | hy'
        · rw [order_number hx' hy', Option.some.injEq, compare_eq]
          unfold sval isz
          constructor
          · intro h
            by_cases hz : units k.format (rng k.format x) = 0
            · have h2 : units k.format (rng k.format y) = 0 := by
                rw [hz] at h
                generalize units k.format (rng k.format y) = v at *
                split at h <;> split at h <;> omega
              exact .inr ⟨by simpa using (units_zero _).1 hz, by simpa using (units_zero _).1 h2⟩
            · refine .inl (word_eq k hx.lt hy.lt ?_ ?_)
              · generalize units k.format (rng k.format x) = u at *
                generalize units k.format (rng k.format y) = v at *
                cases hs : sgn k.format x <;> cases ht : sgn k.format y <;> simp only [hs, ht, if_true, Bool.false_eq_true, if_false] at h ⊢ <;> omega
              · refine units_inj k.format ?_
                generalize units k.format (rng k.format x) = u at *
                generalize units k.format (rng k.format y) = v at *
                split at h <;> split at h <;> omega
          · rintro (rfl | ⟨h1, h2⟩)
            · rfl
            · simp only [beq_iff_eq] at h1 h2
              rw [h1, h2, (units_zero _).2 rfl]
              simp
        · have hy2 := read_inf k (x := y) (by omega)
          obtain ⟨m, a, h1, _⟩ := read_number k.format hx'
          have : k.format.order x y = some (if sgn k.format y then .gt else .lt) := by
            unfold Ieee.Format.order; rw [h1, hy2]; rfl
          rw [this]
          constructor
          · intro h; split at h <;> cases h
          · rintro (h | h)
            · subst h; omega
            · have h3 : rng k.format y = 0 := by simpa [isz] using h.2
              have := binade_le k
              have : 0 < k.format.binade := pow_pos' _
              omega
      · rcases Nat.lt_or_ge (rng k.format y) k.format.infRung with hy' | hy'
        · have hx2 := read_inf k (x := x) (by omega)
          obtain ⟨m, a, h1, _⟩ := read_number k.format hy'
          have : k.format.order x y = some (if sgn k.format x then .lt else .gt) := by
            unfold Ieee.Format.order; rw [h1, hx2]; rfl
          rw [this]
          constructor
          · intro h; split at h <;> cases h
          · rintro (h | h)
            · subst h; omega
            · have h3 : rng k.format x = 0 := by simpa [isz] using h.1
              have := binade_le k
              have : 0 < k.format.binade := pow_pos' _
              omega
        · have hx2 := read_inf k (x := x) (by omega)
          have hy2 := read_inf k (x := y) (by omega)
          have : k.format.order x y = some (compare (sgn k.format y).toNat (sgn k.format x).toNat) := by
            unfold Ieee.Format.order; rw [hx2, hy2]; rfl
          rw [this]
          constructor
          · intro h
            refine .inl (word_eq k hx.lt hy.lt ?_ (by omega))
            cases hs : sgn k.format x <;> cases ht : sgn k.format y <;> rw [hs, ht] at h <;> first | rfl | (exfalso; revert h; decide)
          · rintro (h | h)
            · subst h; cases sgn k.format x <;> rfl
            · have h3 : rng k.format x = 0 := by simpa [isz] using h.1
              have := binade_le k
              have : 0 < k.format.binade := pow_pos' _
              omega
    · simp [fcmp, order_nan_right hny]
  · simp [fcmp, order_nan_left hnx]

theorem zero_words (k : FloatKind) {x : Nat} (hx : Can k x) (h : isz k x = true) : x = 0 ∨ x = k.format.signWeight := by
  have hp : 0 < k.format.signWeight := pow_pos' _
  have hlt := hx.lt
  rw [width_pos] at hlt
  have h0 : x % k.format.signWeight = 0 := by simpa [isz, rng] using h
  have h1 : x / k.format.signWeight < 2 := (Nat.div_lt_iff_lt_mul hp).2 hlt
  have e1 := Nat.div_add_mod x k.format.signWeight
  rw [h0] at e1
  have : x / k.format.signWeight = 0 ∨ x / k.format.signWeight = 1 := by
    generalize x / k.format.signWeight = q at h1
    omega
  rcases this with h2 | h2 <;> rw [h2] at e1
  · left; omega
  · right; omega
theorem isz_of_feq0 {k : FloatKind} {x : Nat} (hx : Can k x) : fcmp .eql k x 0 = isz k x := by
  have h0 : Can k 0 := by unfold Can; cases k <;> decide
  have hz : isz k 0 = true := by simp [isz, rng]
  rw [Bool.eq_iff_iff, feq_iff hx h0]
  constructor
  · rintro ⟨_, _, rfl | h⟩
    · exact hz
    · exact h.1
  · intro h
    refine ⟨?_, by cases k <;> decide, .inr ⟨h, hz⟩⟩
    rcases zero_words k hx h with rfl | rfl <;> cases k <;> decide

/-! ### the wider kind has room -/
theorem fover_up (x : Nat) : fover .f32 .f64 x = false := by
  unfold fover
  rw [if_neg (by decide)]
  cases hr : FloatKind.f32.decode x with
  | nan s f => rfl
  | infinity s => rfl
  | number s m e =>
    -- what such a word reads as
    have hm : m < 2 ^ 24 ∧ -149 ≤ e ∧ e ≤ 104 := by
      have hsw : FloatKind.f32.format.signWeight = 2147483648 := by decide
      have hinf : FloatKind.f32.format.infRung = 2139095040 := by decide
      have hbin : FloatKind.f32.format.binade = 8388608 := by decide
      have hlp : FloatKind.f32.format.leastPlace = -149 := by decide
      unfold FloatKind.decode Ieee.Format.read at hr
      simp only [hsw, hinf, hbin, hlp] at hr
      split at hr
      · cases hr; omega
      · split at hr
        · cases hr
          have : x % 2147483648 / 8388608 ≤ 254 := by omega
          omega
        · split at hr <;> cases hr
    obtain ⟨h1, h2, h3⟩ := hm
    simp only
    have key : ∀ r, r < 9218868437227405312 → ((FloatKind.f64.decode (Ieee.double.word s r)).isInfinity) = false := by
      intro r hr
      have hsw : Ieee.double.signWeight = 9223372036854775808 := by decide
      have hinf : Ieee.double.infRung = 9218868437227405312 := by decide
      have e : Ieee.double.word s r % 9223372036854775808 = r := by
        unfold Ieee.Format.word; rw [hsw]; split <;> omega
      unfold FloatKind.decode FloatKind.format Ieee.Format.read
      simp only [hsw, hinf, e]
      by_cases h1 : r < Ieee.double.binade
      · rw [if_pos h1]; rfl
      · rw [if_neg h1, if_pos hr]; rfl
    show (FloatKind.f64.decode (Ieee.double.nearest s m e)).isInfinity = false
    unfold Ieee.Format.nearest
    have hfb : Ieee.double.fractionBits = 52 := rfl
    have hlp : Ieee.double.leastPlace = -1074 := by decide
    have hbin : Ieee.double.binade = 4503599627370496 := by decide
    have hinf : Ieee.double.infRung = 9218868437227405312 := by decide
    split
    · exact key 0 (by decide)
    · rename_i hm0
      have hl : m.log2 ≤ 23 := by
        have := (Nat.log2_lt hm0).2 h1
        omega
      simp only [hfb, hlp, hbin, hinf]
      have hlast : max (e + (m.log2 : Int) - ((52 : Nat) : Int)) (-1074) = e + (m.log2 : Int) - 52 := by omega
      rw [hlast]
      have e1 : (e - (e + (m.log2 : Int) - 52)).toNat = 52 - m.log2 := by omega
      have e2 : (e + (m.log2 : Int) - 52 - e).toNat = 0 := by omega
      rw [e1, e2]
      have hcut : ∀ n, Ieee.Toward.even.cut s n 0 = n := by
        intro n
        unfold Ieee.Toward.cut
        simp [Nat.mod_one]
      rw [hcut]
      refine key _ ?_
      have hk : m <<< (52 - m.log2) < 2 ^ 53 := by
        rw [Nat.shiftLeft_eq]
        have hlt : m < 2 ^ (m.log2 + 1) := Nat.lt_log2_self
        have : m * 2 ^ (52 - m.log2) < 2 ^ (m.log2 + 1) * 2 ^ (52 - m.log2) := Nat.mul_lt_mul_of_pos_right hlt (pow_pos' _)
        rw [← Nat.pow_add] at this
        have e3 : m.log2 + 1 + (52 - m.log2) = 53 := by omega
        rwa [e3] at this
      have e4 : (e + (m.log2 : Int) - 52 - -1074).toNat ≤ 1149 := by omega
      have e6 : (2 : Nat) ^ 53 = 9007199254740992 := by decide
      rw [e6] at hk
      exact room _ _ e4 hk
where
  room (a b : Nat) (ha : a ≤ 1149) (hb : b < 9007199254740992) : min (a * 4503599627370496 + b) 9218868437227405312 < 9218868437227405312 := by omega

theorem double_word (s : Bool) {r : Nat} (h : r < 9223372036854775808) : sgn Ieee.double (Ieee.double.word s r) = s ∧ rng Ieee.double (Ieee.double.word s r) = r := by
  have hsw : Ieee.double.signWeight = 9223372036854775808 := by decide
  unfold sgn rng Ieee.Format.word
  rw [hsw]
  cases s
  · simp only [Bool.false_eq_true, if_false]
    refine ⟨?_, Nat.mod_eq_of_lt h⟩
    rw [Nat.div_eq_of_lt h]; rfl
  · simp only [if_true]
    refine ⟨?_, ?_⟩
    · rw [Nat.add_div_left _ (by decide), Nat.div_eq_of_lt h]; rfl
    · rw [Nat.add_mod_left, Nat.mod_eq_of_lt h]

theorem min_room (a b : Nat) (ha : a ≤ 1149) (hb : b < 9007199254740992) : min (a * 4503599627370496 + b) 9218868437227405312 = a * 4503599627370496 + b := Nat.min_eq_left (by omega)
theorem sum_room (a b : Nat) (ha : a ≤ 1149) (hb : b < 9007199254740992) : a * 4503599627370496 + b < 9218868437227405312 := by omega
theorem ge_room (a b : Nat) (hb : 4503599627370496 ≤ b) : ¬ a * 4503599627370496 + b < 4503599627370496 := by omega
theorem div_room (B a b : Nat) (h1 : B ≤ b) (h2 : b < B + B) : (a * B + b) / B = a + 1 ∧ (a * B + b) % B = b - B := by
  have hB : 0 < B := by omega
  obtain ⟨t, rfl⟩ := Nat.exists_eq_add_of_le h1
  have e : a * B + (B + t) = t + (a + 1) * B := by rw [Nat.add_mul]; omega
  rw [e, Nat.add_mul_div_right _ _ hB, Nat.add_mul_mod_self_right, Nat.div_eq_of_lt (by omega), Nat.mod_eq_of_lt (by omega)]
  omega

/-- The exact word of a small number in the wider kind. -/
theorem nearest_exact (s : Bool) {m : Nat} {e : Int} (h1 : m < 2 ^ 24) (h2 : -149 ≤ e) (h3 : e ≤ 104) :
    ∃ r, Ieee.double.nearest s m e = Ieee.double.word s r ∧ r < 9218868437227405312 ∧ units Ieee.double r = m * 2 ^ (e + 1074).toNat := by
  unfold Ieee.Format.nearest
  have hfb : Ieee.double.fractionBits = 52 := rfl
  have hlp : Ieee.double.leastPlace = -1074 := by decide
  have hbin : Ieee.double.binade = 4503599627370496 := by decide
  have hinf : Ieee.double.infRung = 9218868437227405312 := by decide
  by_cases hm0 : m = 0
  · rw [if_pos hm0]
    refine ⟨0, rfl, by decide, ?_⟩
    subst hm0
    rw [Nat.zero_mul]
    exact (units_zero _).2 rfl
  · rw [if_neg hm0]
    have hl : m.log2 ≤ 23 := by
      have := (Nat.log2_lt hm0).2 h1
      omega
    have hlow : 2 ^ m.log2 ≤ m := Nat.log2_self_le hm0
    have hup : m < 2 ^ (m.log2 + 1) := Nat.lt_log2_self
    simp only [hfb, hlp, hbin, hinf]
    generalize m.log2 = l at *
    have hlast : max (e + (l : Int) - ((52 : Nat) : Int)) (-1074) = e + (l : Int) - 52 := by omega
    rw [hlast]
    have e1 : (e - (e + (l : Int) - 52)).toNat = 52 - l := by omega
    have e2 : (e + (l : Int) - 52 - e).toNat = 0 := by omega
    rw [e1, e2]
    have hcut : ∀ n, Ieee.Toward.even.cut s n 0 = n := by
      intro n
      unfold Ieee.Toward.cut
      simp [Nat.mod_one]
    rw [hcut, Nat.shiftLeft_eq]
    have hk2 : m * 2 ^ (52 - l) < 9007199254740992 := by
      have : m * 2 ^ (52 - l) < 2 ^ (l + 1) * 2 ^ (52 - l) := Nat.mul_lt_mul_of_pos_right hup (pow_pos' _)
      rw [← Nat.pow_add, show l + 1 + (52 - l) = 53 by omega] at this
      exact this
    have hk1 : 4503599627370496 ≤ m * 2 ^ (52 - l) := by
      have : 2 ^ l * 2 ^ (52 - l) ≤ m * 2 ^ (52 - l) := Nat.mul_le_mul_right _ hlow
      rw [← Nat.pow_add, show l + (52 - l) = 52 by omega] at this
      exact this
    have e4 : (e + (l : Int) - 52 - -1074).toNat ≤ 1149 := by omega
    have e6 : (e + 1074).toNat = (52 - l) + (e + (l : Int) - 52 - -1074).toNat := by omega
    rw [e6, Nat.pow_add, ← Nat.mul_assoc]
    generalize (e + (l : Int) - 52 - -1074).toNat = a at *
    generalize m * 2 ^ (52 - l) = b at *
    rw [min_room a b e4 hk2]
    refine ⟨_, rfl, sum_room a b e4 hk2, ?_⟩
    obtain ⟨q1, q2⟩ := div_room 4503599627370496 a b hk1 hk2
    unfold units
    rw [hbin, q1, q2, Nat.add_sub_cancel, Nat.add_sub_cancel' hk1, if_neg (ge_room a b hk1)]

theorem read32 {x : Nat} {s : Bool} {m : Nat} {e : Int} (hr : FloatKind.f32.decode x = .number s m e) : m < 2 ^ 24 ∧ -149 ≤ e ∧ e ≤ 104 := by
  have hsw : FloatKind.f32.format.signWeight = 2147483648 := by decide
  have hinf : FloatKind.f32.format.infRung = 2139095040 := by decide
  have hbin : FloatKind.f32.format.binade = 8388608 := by decide
  have hlp : FloatKind.f32.format.leastPlace = -149 := by decide
  unfold FloatKind.decode Ieee.Format.read at hr
  simp only [hsw, hinf, hbin, hlp] at hr
  split at hr
  · cases hr; omega
  · split at hr
    · cases hr
      have : x % 2147483648 / 8388608 ≤ 254 := by omega
      omega
    · split at hr <;> cases hr

/-- the number with those bits, in the wider kind -/
@[reducible] def up (x : Nat) : Nat := fconv .f32 .f64 x
def pow2 (n : Nat) : Nat := 2 ^ n
theorem pow2_add (a n : Nat) : 2 ^ (a + n) = 2 ^ a * pow2 n := Nat.pow_add 2 a n
theorem pow2_pos (n : Nat) : 0 < pow2 n := pow_pos' n
def upK : Nat := pow2 925
theorem upK_pos : 0 < upK := pow2_pos _
theorem up_number {x : Nat} (h : rng Ieee.single x < Ieee.single.infRung) : sgn Ieee.double (up x) = sgn Ieee.single x ∧ rng Ieee.double (up x) < Ieee.double.infRung ∧ units Ieee.double (rng Ieee.double (up x)) = units Ieee.single (rng Ieee.single x) * upK := by
  obtain ⟨m, a, h1, h2⟩ := read_number Ieee.single h
  have hlp : Ieee.single.leastPlace = -149 := by decide
  have hd : FloatKind.f32.decode x = .number (sgn Ieee.single x) m (-149 + (a : Int)) := by rw [← hlp]; exact h1
  obtain ⟨g1, g2, g3⟩ := read32 hd
  obtain ⟨r, r1, r2, r3⟩ := nearest_exact (sgn Ieee.single x) g1 g2 g3
  have hup : up x = Ieee.double.word (sgn Ieee.single x) r := by
    unfold up fconv
    rw [if_neg (by decide), hd]
    exact r1
  have hlt : r < 9223372036854775808 := by omega
  obtain ⟨w1, w2⟩ := double_word (sgn Ieee.single x) hlt
  have hinf : Ieee.double.infRung = 9218868437227405312 := by decide
  rw [hup, w1, w2, hinf]
  refine ⟨rfl, r2, ?_⟩
  rw [r3, ← h2, Nat.mul_assoc]
  have e1 : (-149 + (a : Int) + 1074).toNat = a + 925 := by omega
  rw [e1, pow2_add, upK]
theorem up_inf {x : Nat} (h : rng Ieee.single x = Ieee.single.infRung) : up x = Ieee.double.word (sgn Ieee.single x) Ieee.double.infRung := by
  unfold up fconv
  rw [if_neg (by decide)]
  have : FloatKind.f32.decode x = .infinity (sgn Ieee.single x) := read_inf .f32 h
  rw [this]; rfl
theorem up_nan {x : Nat} (h : fnan .f32 x = true) : up x = qn .f64 := by
  obtain ⟨s, f, hr⟩ := read_nan h
  unfold up fconv FloatKind.decode
  rw [if_neg (by decide), hr]
theorem fnan_up (x : Nat) : fnan .f64 (up x) = fnan .f32 x := by
  cases h : fnan .f32 x
  · have := rng_le h
    rcases Nat.lt_or_ge (rng Ieee.single x) Ieee.single.infRung with h' | h'
    · obtain ⟨_, h2, _⟩ := up_number h'
      obtain ⟨m, e, h3, _⟩ := read_number Ieee.double h2
      unfold fnan FloatKind.decode
      rw [show FloatKind.f64.format.read (up x) = _ from h3]; rfl
    · have h'' : rng Ieee.single x = Ieee.single.infRung := Nat.le_antisymm this h'
      rw [up_inf h'']
      cases sgn Ieee.single x <;> decide
  · rw [up_nan h, fnan_qn]
theorem up_inj {x y : Nat} (hx : Can .f32 x) (hy : Can .f32 y) (h : up x = up y) : x = y := by
  have hn : fnan .f32 x = fnan .f32 y := by rw [← fnan_up, ← fnan_up, h]
  have hw : Ieee.double.infRung < 9223372036854775808 := by decide
  cases hnx : fnan .f32 x
  · rw [hnx] at hn
    have lx := rng_le hnx
    have ly := rng_le hn.symm
    rcases Nat.lt_or_ge (rng Ieee.single x) Ieee.single.infRung with hx' | hx'
    · obtain ⟨a1, a2, a3⟩ := up_number hx'
      rcases Nat.lt_or_ge (rng Ieee.single y) Ieee.single.infRung with hy' | hy'
      · obtain ⟨b1, b2, b3⟩ := up_number hy'
        rw [h] at a1 a3
        refine word_eq .f32 hx.lt hy.lt (a1.symm.trans b1) (units_inj Ieee.single ?_)
        rw [a3] at b3
        exact Nat.eq_of_mul_eq_mul_right upK_pos b3
      · have hy2 := up_inf (x := y) (Nat.le_antisymm ly hy')
        have := (double_word (sgn Ieee.single y) hw).2
        rw [← hy2, ← h] at this
        omega
    · have hx2 := up_inf (x := x) (Nat.le_antisymm lx hx')
      rcases Nat.lt_or_ge (rng Ieee.single y) Ieee.single.infRung with hy' | hy'
      · obtain ⟨b1, b2, b3⟩ := up_number hy'
        have := (double_word (sgn Ieee.single x) hw).2
        rw [← hx2, h] at this
        omega
      · have hy2 := up_inf (x := y) (Nat.le_antisymm ly hy')
        have w1 := (double_word (sgn Ieee.single x) hw).1
        have w2 := (double_word (sgn Ieee.single y) hw).1
        rw [← hx2, h, hy2, w2] at w1
        exact word_eq .f32 hx.lt hy.lt w1.symm ((Nat.le_antisymm lx hx').trans (Nat.le_antisymm ly hy').symm)
  · rw [hnx] at hn
    rw [hx.nan hnx, hy.nan hn.symm]
theorem can_up (x : Nat) : Can .f64 (fconv .f32 .f64 x) := ⟨cb_fconv _ _ _ (by decide), fconv_lt _ _ _ (by decide)⟩
theorem can_fop (op : BinOp) (k : FloatKind) (x y : Nat) : Can k (fop op k x y) := ⟨cb_fop op k x y, fop_lt op k x y⟩
theorem up_beq {x y : Nat} (hx : Can .f32 x) (hy : Can .f32 y) : (fconv .f32 .f64 x == fconv .f32 .f64 y) = (x == y) := by
  rw [Bool.eq_iff_iff, beq_iff_eq, beq_iff_eq]
  exact ⟨up_inj hx hy, fun h => by rw [h]⟩

/-! ### the laws' own comparison -/
theorem same_nanx {k : FloatKind} {x y : Nat} (hx : Can k x) (hy : Can k y) (h : fnan k x = true) : fnan k y = (x == y) := by
  cases hn : fnan k y
  · symm; rw [beq_eq_false_iff_ne]; rintro rfl; rw [h] at hn; cases hn
  · rw [hx.nan h, hy.nan hn]; simp
theorem same_nany {k : FloatKind} {x y : Nat} (h : fnan k x = false) (hn : fnan k y = true) : (x == y) = false := by
  rw [beq_eq_false_iff_ne]; rintro rfl; rw [h] at hn; cases hn
theorem same_zero {x y : Nat} (hx : Can .f64 x) (hy : Can .f64 y) (h : isz .f64 x = true) (h' : isz .f64 y = true) :
    (fcmp .gtr .f64 (fop .quo .f64 4607182418800017408 x) 0 == fcmp .gtr .f64 (fop .quo .f64 4607182418800017408 y) 0) = (x == y) := by
  rcases zero_words .f64 hx h with rfl | rfl <;> rcases zero_words .f64 hy h' with rfl | rfl <;> decide
theorem same_eq {k : FloatKind} {x y : Nat} (hx : Can k x) (hy : Can k y) (h : fnan k x = false) (hn : fnan k y = false) (hz : isz k x = false ∨ isz k y = false) : fcmp .eql k x y = (x == y) := by
  rw [Bool.eq_iff_iff, feq_iff hx hy, beq_iff_eq]
  constructor
  · rintro ⟨_, _, rfl | ⟨h1, h2⟩⟩
    · rfl
    · rcases hz with hz | hz
      · rw [h1] at hz; cases hz
      · rw [h2] at hz; cases hz
  · intro e; exact ⟨h, hn, .inl e⟩

/-! ### marks -/
/-- n numbers from k on, as 32-bit words -/
def marks (k : Int) (n : Nat) : List Nat := (List.range n).map fun (i : Nat) => FloatKind.f32.nearest (k + (i : Int))
theorem marks_length (k : Int) (n : Nat) : (marks k n).length = n := by simp [marks]
theorem marks_get {k : Int} {n i : Nat} (h : i < n) : (marks k n).getD i 0 = FloatKind.f32.nearest (k + (i : Int)) := by simp [marks, h]
theorem take_marks {ys : List Nat} {k : Int} {n i : Nat} (hl : ys.length = n) (ht : ys.take i = marks k i) (hi : i < n) : (ys.set i (FloatKind.f32.nearest (k + (i : Int)))).take (i + 1) = marks k (i + 1) := by
  apply List.ext_getElem?
  intro j
  have hj := congrArg (·[j]?) ht
  simp only [marks, List.getElem?_take, List.getElem?_map] at hj ⊢
  by_cases h1 : j < i
  · rw [if_pos h1, List.getElem?_range h1] at hj
    rw [if_pos (by omega), List.getElem?_set_ne (by omega), hj, List.getElem?_range (by omega)]
  · by_cases h2 : j = i
    · subst h2
      rw [if_pos (by omega), List.getElem?_set_self (by omega), List.getElem?_range (by omega)]; rfl
    · rw [if_neg (by omega), List.getElem?_eq_none (by simp; omega)]; rfl
theorem marks_all {ys : List Nat} {k : Int} {n i : Nat} (hl : ys.length = n) (ht : ys.take i = marks k i) (hi : n ≤ i) (hi' : i ≤ n) : ys = marks k n := by
  have e : i = n := Nat.le_antisymm hi' hi
  subst e
  rwa [List.take_of_length_le (by omega)] at ht

/-! ### words of the program -/
def fin (x : Nat) : Bool := fcmp .eql .f32 (fop .sub .f32 x x) 0
def above (x : Nat) : Bool := fin x && fcmp .gtr .f32 x 0
def least (x : Nat) : Bool := fin x && fcmp .geq .f32 x 0
end Go.Proofs.Ytgeflnjjppgooaa


namespace Go.Proofs.Ytgeflnjjppgooaa
open Go.RowKit

/-! ### what is rounded to a whole number -/
/-! ### steps -/
end Go.Proofs.Ytgeflnjjppgooaa


namespace Go.Proofs.Ytgeflnjjppgooaa
open Go.RowKit Go.ChangeShapes Go.WideShapes Go.Deep

section
variable {H : Type} {enc : TypeId × Value → H} {P : Program}

def parB (P : Program) (ts : List TypeId) : Bool := ts.all fun t => P.readableRec t && decide (t < P.types.size)

theorem trodAll_below {W W' : World} (hl : laidOutB P = true) (hb : Below W.heap.size W W') {sp : Nat → Bool} : ∀ {ts : List TypeId} {vs : List Value} {ds : List (DataW H)} {ps : List MemPlace}, parB P ts = true → DataW.TrodAll enc P W 0 (fun _ => true) true ts vs ds ps →
    (∀ x ∈ ps, x.block < W.heap.size) → (∀ x ∈ ps, sp x.block = true) → DataW.TrodAll enc P W' 0 sp true ts vs ds ps
  | [], _, _, _, _, h, _, _ => by
    obtain ⟨rfl, rfl, rfl⟩ := trodAll_nil h
    exact trodAll_mk0
  | t :: ts, _, _, _, hp, h, hlt, hs => by
    obtain ⟨v, vs, d, ds, p, q, rfl, rfl, rfl, h1, h2⟩ := trodAll_cons h
    simp only [parB, List.all_cons, Bool.and_eq_true, decide_eq_true_eq] at hp
    refine ⟨p, q, WideElems.Trod_stays hl hp.1.1 hp.1.2 h1 (fun x hx => hb.same (hlt x (List.mem_append_left _ hx))) (fun x hx => hs x (List.mem_append_left _ hx)), ?_, rfl⟩
    exact trodAll_below hl hb (by simpa [parB] using hp.2) h2 (fun x hx => hlt x (List.mem_append_right _ hx)) (fun x hx => hs x (List.mem_append_right _ hx))

/-- A law that only reads: true, and each argument reads as it did. -/
theorem law_post {f : Func} {s : ChangeSpec} {fresh handsOn again : Bool} {W W' : World} {args : Array Value} {ds gs : List (DataW H)} {before : List MemPlace} {t : TypeId}
    (hl : laidOutB P = true) (hpar : parB P f.params.toList = true) (hrt : f.resultTypes = #[t]) (ht : P.underlying t = some .bool) (hvars : s.vars = [])
    (hfn : s.fn H (ds ++ gs) = { results := [.lit (.bool true)], args := ds })
    (hW : DataW.Whole enc P f.params.toList s.vars false W args.toList ds gs before) (hb : Below W.heap.size W W') : s.post enc P f false fresh handsOn again W args (.bool true) W' := by
  have hW' := hW
  obtain ⟨p, q, hA, hV, rfl, hfz, hnd⟩ := hW'
  rw [hvars] at hV
  obtain ⟨rfl, rfl⟩ := trodVars_none hV
  have hlt : ∀ x ∈ p, x.block < W.heap.size := fun x hx => by simpa using hW.lt x (by simpa using hx)
  have hres : ∀ (b : Nat) (sp : Nat → Bool) (hd : Bool), DataW.TrodAll enc P W' b sp hd f.resultTypes.toList ((Value.bool true).resultList f.resultTypes.size) (s.fn H (ds ++ [])).results [] := by
    intro b sp hd
    rw [hfn, hrt]
    exact trodAll_mk1 (shut_bool ht true)
  have hargs : ∀ sp : Nat → Bool, (∀ x ∈ p, sp x.block = true) → DataW.TrodAll enc P W' 0 sp true f.params.toList args.toList (s.fn H (ds ++ [])).args p := by
    intro sp hs
    rw [hfn]
    exact trodAll_below hl hb hpar hA hlt hs
  have hvs : ∀ sp : Nat → Bool, DataW.TrodVars enc P W' sp s.vars (s.fn H (ds ++ [])).vars [] := by
    intro sp
    rw [hvars, hfn]
    rfl
  refine ⟨ds, [], _, [], p, [], hW, hres _ _ _, hargs _ (fun x hx => by simpa using hlt x hx), hvs _, hb.frame _, fun _ => ?_⟩
  refine ⟨ok_one hrt rfl (okWide_bool_mk ht true), _, _, ([] ++ p) ++ [], ⟨[] ++ p, [], trodAll_append (hargs _ (fun _ _ => rfl)) (hres _ _ _), hvs _, rfl, ?_, fun h => by cases h⟩, ?_⟩
  · intro b off hp
    have hp' : MemPlace.cell b off ∈ p := by simpa using hp
    rw [hb.frozen (p := ⟨b, off, none⟩) (hlt _ hp')]
    exact hfz b off (by simpa using hp')
  · intro x hx _
    simpa using hx

theorem wf_lt {k : FloatKind} {b : Nat} (h : (Lit.float k b).wf = true) : b < 2 ^ k.format.width := by
  cases k <;> (simp only [Lit.wf, decide_eq_true_eq] at h; exact Nat.lt_of_lt_of_le h (by decide))
end
end Go.Proofs.Ytgeflnjjppgooaa


namespace Go.Proofs.Ytgeflnjjppgooaa
open Go.RowKit

def hd (f : Nat → Option Addr × Nat) (xss : List (List Nat)) : List Value := (List.range xss.length).map fun i => .slice (f i).1 (xss.getD i []).length (f i).2
def rents (t : TypeId) (f : Nat → Option Addr × Nat) (xss : List (List Nat)) : List Ent := (List.range xss.length).map fun i => ⟨(f i).1, fl (xss.getD i []), (f i).2 * 1, t⟩
theorem hd_length (f : Nat → Option Addr × Nat) (xss : List (List Nat)) : (hd f xss).length = xss.length := by simp [hd]
theorem hd_get {f : Nat → Option Addr × Nat} {xss : List (List Nat)} {k : Nat} (h : k < xss.length) : (hd f xss)[k]? = some (.slice (f k).1 (xss.getD k []).length (f k).2) := by
  simp [hd, h]
theorem rents_mem {t : TypeId} {f : Nat → Option Addr × Nat} {xss : List (List Nat)} {i : Nat} (h : i < xss.length) : (⟨(f i).1, fl (xss.getD i []), (f i).2 * 1, t⟩ : Ent) ∈ rents t f xss := by
  unfold rents
  exact List.mem_map.2 ⟨i, by simpa using h, rfl⟩
/-- Each row's cells lie where its header says. -/
def Rws (w : World) (f : Nat → Option Addr × Nat) (xss : List (List Nat)) : Prop := ∀ i, i < xss.length → Cl w (f i).1 (fl (xss.getD i []))
theorem Rws.below {w w' : World} {f : Nat → Option Addr × Nat} {xss : List (List Nat)} (h : Rws w f xss) (hb : Below w.heap.size w w') : Rws w' f xss := fun i hi => (h i hi).below hb
theorem Rws.root {w0 w : World} {O : List Ent} {f : Nat → Option Addr × Nat} {xss : List (List Nat)} (h : Rws w0 f xss) (hw : Hp w0 O w) : Rws w f xss := h.below hw.below
inductive RowsIn : List Ent → TypeId → (Nat → Option Addr × Nat) → List (List Nat) → Prop
  | here {t : TypeId} {f : Nat → Option Addr × Nat} {xss : List (List Nat)} {O : List Ent} : RowsIn (rents t f xss ++ O) t f xss
  | last {t : TypeId} {f : Nat → Option Addr × Nat} {xss : List (List Nat)} : RowsIn (rents t f xss) t f xss
  | there {t : TypeId} {f : Nat → Option Addr × Nat} {xss : List (List Nat)} {e : Ent} {O : List Ent} : RowsIn O t f xss → RowsIn (e :: O) t f xss
  | thereS {t : TypeId} {f : Nat → Option Addr × Nat} {xss : List (List Nat)} {S O : List Ent} : RowsIn O t f xss → RowsIn (S ++ O) t f xss
theorem RowsIn.mem {O : List Ent} {t : TypeId} {f : Nat → Option Addr × Nat} {xss : List (List Nat)} (h : RowsIn O t f xss) : ∀ i, i < xss.length → (⟨(f i).1, fl (xss.getD i []), (f i).2 * 1, t⟩ : Ent) ∈ O := by
  induction h with
  | here => exact fun i hi => List.mem_append_left _ (rents_mem hi)
  | last => exact fun i hi => rents_mem hi
  | there _ ih => exact fun i hi => List.mem_cons_of_mem _ (ih i hi)
  | thereS _ ih => exact fun i hi => List.mem_append_right _ (ih i hi)
theorem Rws.own {w0 w : World} {O : List Ent} {t : TypeId} {f : Nat → Option Addr × Nat} {xss : List (List Nat)} (h : RowsIn O t f xss) (hw : Hp w0 O w) : Rws w f xss := fun i hi => Sees.own (h.mem i hi) w hw
/-- The address and the capacity of one row more. -/
def upd (f : Nat → Option Addr × Nat) (k : Nat) (p : Option Addr × Nat) : Nat → Option Addr × Nat := fun i => if i = k then p else f i
theorem hd_snoc (f : Nat → Option Addr × Nat) (xss : List (List Nat)) (p : Option Addr × Nat) (xs : List Nat) : hd f xss ++ [.slice p.1 xs.length p.2] = hd (upd f xss.length p) (xss ++ [xs]) := by
  apply List.ext_getElem?
  intro i
  rcases Nat.lt_trichotomy i xss.length with h | h | h
  · rw [List.getElem?_append_left (by simpa [hd_length] using h), hd_get h, hd_get (by simp; omega)]
    simp [upd, Nat.ne_of_lt h, List.getD, List.getElem?_append_left h]
  · subst h
    rw [List.getElem?_append_right (by simp [hd_length]), hd_get (by simp), hd_length]
    simp [upd, List.getD]
  · rw [List.getElem?_eq_none (by simp [hd_length]; omega), List.getElem?_eq_none (by simp [hd_length]; omega)]
theorem rents_snoc (t : TypeId) (f : Nat → Option Addr × Nat) (xss : List (List Nat)) (p : Option Addr × Nat) (xs : List Nat) : rents t f xss ++ [⟨p.1, fl xs, p.2 * 1, t⟩] = rents t (upd f xss.length p) (xss ++ [xs]) := by
  apply List.ext_getElem?
  intro i
  have hl : ∀ f xss, (rents t f xss).length = xss.length := fun f xss => by simp [rents]
  have hg : ∀ (f : Nat → Option Addr × Nat) (xss : List (List Nat)) (k : Nat), k < xss.length → (rents t f xss)[k]? = some ⟨(f k).1, fl (xss.getD k []), (f k).2 * 1, t⟩ := fun f xss k h => by simp [rents, h]
  rcases Nat.lt_trichotomy i xss.length with h | h | h
  · rw [List.getElem?_append_left (by simpa [hl] using h), hg _ _ _ h, hg _ _ _ (by simp; omega)]
    simp [upd, Nat.ne_of_lt h, List.getD, List.getElem?_append_left h]
  · subst h
    rw [List.getElem?_append_right (by simp [hl]), hg _ _ _ (by simp), hl]
    simp [upd, List.getD]
  · rw [List.getElem?_eq_none (by simp [hl]; omega), List.getElem?_eq_none (by simp [hl]; omega)]
/-- The header list of which the first k are made, the others nil. -/
def hdk (f : Nat → Option Addr × Nat) (xss : List (List Nat)) (k : Nat) : List Value := hd f (xss.take k) ++ List.replicate (xss.length - k) (.slice none 0 0)
theorem hdk_length {f : Nat → Option Addr × Nat} {xss : List (List Nat)} {k : Nat} (h : k ≤ xss.length) : (hdk f xss k).length = xss.length := by
  simp [hdk, hd_length]; omega
theorem hdk_zero (f : Nat → Option Addr × Nat) (xss : List (List Nat)) : hdk f xss 0 = List.replicate xss.length (.slice none 0 0) := by simp [hdk, hd]
theorem hdk_all (f : Nat → Option Addr × Nat) (xss : List (List Nat)) : hdk f xss xss.length = hd f xss := by simp [hdk]
theorem take_snoc {xss : List (List Nat)} {k : Nat} (h : k < xss.length) : xss.take k ++ [xss.getD k []] = xss.take (k + 1) := by
  rw [List.take_succ_eq_append_getElem h]; simp [h]
theorem hdk_set {f : Nat → Option Addr × Nat} {xss : List (List Nat)} {k : Nat} (h : k < xss.length) (p : Option Addr × Nat) : (hdk f xss k).set k (.slice p.1 (xss.getD k []).length p.2) = hdk (upd f k p) xss (k + 1) := by
  have hlk : (xss.take k).length = k := by rw [List.length_take]; omega
  unfold hdk
  rw [← take_snoc h]
  have := hd_snoc f (xss.take k) p (xss.getD k [])
  rw [hlk] at this
  rw [← this]
  obtain ⟨m, hm⟩ : ∃ m, xss.length - k = m + 1 := ⟨xss.length - k - 1, by omega⟩
  rw [hm, List.replicate_succ, List.set_append_right _ _ (by rw [hd_length, hlk]; omega), hd_length, hlk, Nat.sub_self, List.set_cons_zero, show xss.length - (k + 1) = m by omega]
  simp
theorem rents_take {t : TypeId} {f : Nat → Option Addr × Nat} {xss : List (List Nat)} {k : Nat} (h : k < xss.length) (p : Option Addr × Nat) : rents t f (xss.take k) ++ [⟨p.1, fl (xss.getD k []), p.2 * 1, t⟩] = rents t (upd f k p) (xss.take (k + 1)) := by
  have hlk : (xss.take k).length = k := by rw [List.length_take]; omega
  have := rents_snoc t f (xss.take k) p (xss.getD k [])
  rw [hlk] at this
  rw [this, take_snoc h]
theorem cycle_nils (m : Nat) : cycle [Value.slice none 0 0] m = List.replicate m (.slice none 0 0) := by
  induction m with
  | zero => rfl
  | succ m ih => simp [cycle, ih, List.replicate_succ]
def Cans (xss : List (List Nat)) : Prop := ∀ xs ∈ xss, ∀ x ∈ xs, Can .f32 x
theorem Cans.row {xss : List (List Nat)} (h : Cans xss) {k : Nat} (hk : k < xss.length) : ∀ x ∈ xss.getD k [], Can .f32 x := h _ (by simp [hk])

/-! ### sizes -/
def szOf (left : Int) (m : Nat) : Int := if left < m then -1 else left - m
def sumK (xss : List (List Nat)) (k : Nat) : Nat := ((xss.take k).map List.length).sum
def bulk (xss : List (List Nat)) : Nat := xss.length + sumK xss xss.length
theorem sumK_zero (xss : List (List Nat)) : sumK xss 0 = 0 := by simp [sumK]
theorem sumK_succ {xss : List (List Nat)} {k : Nat} (h : k < xss.length) : sumK xss (k + 1) = sumK xss k + (xss.getD k []).length := by
  unfold sumK
  rw [← take_snoc h]
  simp
theorem sumK_mono (xss : List (List Nat)) : ∀ (k m : Nat), k ≤ m → m ≤ xss.length → sumK xss k ≤ sumK xss m
  | k, 0, h, _ => by rw [show k = 0 by omega]; exact Nat.le_refl _
  | k, m + 1, h, hm => by
    by_cases e : k = m + 1
    · rw [e]; exact Nat.le_refl _
    · rw [sumK_succ (by omega)]
      have := sumK_mono xss k m (by omega) (by omega)
      omega
theorem bulk_row {xss : List (List Nat)} {k : Nat} (h : k < xss.length) : (xss.getD k []).length + xss.length ≤ bulk xss := by
  unfold bulk
  have h1 := sumK_mono xss (k + 1) xss.length (by omega) (Nat.le_refl _)
  rw [sumK_succ h] at h1
  omega

/-! ### rows that are marked -/
def rentE (t : TypeId) (f : Nat → Option Addr × Nat) (xss : List (List Nat)) (i : Nat) : Ent := ⟨(f i).1, fl (xss.getD i []), (f i).2 * 1, t⟩
def rentsBut (t : TypeId) (f : Nat → Option Addr × Nat) (xss : List (List Nat)) (k : Nat) : List Ent := ((List.range xss.length).erase k).map (rentE t f xss)
theorem rents_out {t : TypeId} {f : Nat → Option Addr × Nat} {xss : List (List Nat)} {k : Nat} (h : k < xss.length) : (rents t f xss).Perm (⟨(f k).1, fl (xss.getD k []), (f k).2 * 1, t⟩ :: rentsBut t f xss k) :=
  (List.perm_cons_erase (show k ∈ List.range xss.length by simpa using h)).map (rentE t f xss)
def mixR (k0 : Int) (xss : List (List Nat)) (k : Nat) : List (List Nat) := (List.range xss.length).map fun i => if i < k then marks (k0 + (sumK xss i : Nat)) (xss.getD i []).length else xss.getD i []
theorem mixR_length (k0 : Int) (xss : List (List Nat)) (k : Nat) : (mixR k0 xss k).length = xss.length := by simp [mixR]
theorem mixR_get (k0 : Int) {xss : List (List Nat)} (k : Nat) {i : Nat} (h : i < xss.length) : (mixR k0 xss k).getD i [] = if i < k then marks (k0 + (sumK xss i : Nat)) (xss.getD i []).length else xss.getD i [] := by simp [mixR, List.getD, h]
theorem mixR_zero (k0 : Int) (xss : List (List Nat)) : mixR k0 xss 0 = xss := by
  apply List.ext_getElem (by simp [mixR])
  intro i h1 h2
  simp [mixR, List.getD, h2]
theorem rentsBut_mix {t : TypeId} {f : Nat → Option Addr × Nat} (k0 : Int) {xss : List (List Nat)} {k : Nat} : rentsBut t f (mixR k0 xss k) k = rentsBut t f (mixR k0 xss (k + 1)) k := by
  unfold rentsBut
  rw [mixR_length, mixR_length]
  apply List.map_congr_left
  intro i hi
  have hn : i ≠ k := fun e => by
    subst e
    exact (List.Nodup.not_mem_erase List.nodup_range) hi
  have hl : i < xss.length := by simpa using List.mem_of_mem_erase hi
  unfold rentE
  rw [mixR_get k0 k hl, mixR_get k0 (k + 1) hl]
  by_cases h : i < k
  · rw [if_pos h, if_pos (by omega)]
  · rw [if_neg h, if_neg (by omega)]

section
variable {P : Program} {n : Nat} {w0 : World} {O : List Ent} {E : Env} {o : Oper}
theorem yq_loadH {t : TypeId} {x : Operand} {a : Option Addr} {k : Nat} {f : Nat → Option Addr × Nat} {xss : List (List Nat)} (ho : o.op = .load t x) (ht : flatB P t = true) (hx : E.opd x = some (.pointer (some (adr a k)))) (hs : Sees w0 O a (hd f xss)) (hk : k < xss.length) : YQ P w0 O E o (.slice (f k).1 (xss.getD k []).length (f k).2) :=
  yq_load ho ht hx hs (hd_get hk)

/-! ### results that lie in cells -/
def rdRes (tmps : Array Value) : ResultVar → Sem Value
  | .tmp t => pure (tmps.getD t undef)
  | .cell c t => do loadVar t (← asAddr (tmps.getD c undef))
theorem results_rd (fn : Func) (tmps : Array Value) : results fn tmps = (do let vs ← fn.results.mapM (rdRes tmps); pure (if h : vs.size = 1 then vs[0] else .tuple vs)) := by
  unfold results
  congr 1
def RV (n : Nat) (P : Program) (w0 : World) (O : List Ent) (E : Env) (r : ResultVar) (u : Value) : Prop :=
  ∀ (a : Act) (w : World), Models n E a → Hp w0 O w → ∃ v, (rdRes a.tmps r).run P w = .ok v w ∧ cn1 v = u
theorem rv_cellS {c : Tmp} {t : TypeId} {a : Option Addr} {k z : Nat} {us cs : List Value} {fs : Array Field} (hu : E.get c = some (.pointer (some (adr a k)))) (ht : P.underlying t = some (.struct fs)) (hz : (P.info? t).map (·.size) = some z) (hs : Sees w0 O a us)
    (hcs : (us.drop k).take z = cs) (hl : cs.length = z) (hsc : cs.all scal = true) : RV n P w0 O E (.cell c t) (.agg cs.toArray) := by
  intro ac w ha hw
  obtain ⟨v, h1, h2⟩ := ha.get c _ hu
  have e1 := cn_pointer h2
  obtain ⟨vs, g1, g2, g3⟩ := (hs w hw).cellsN cs k (fun j u hj => by
    subst hcs
    have hj' : j < z := by
      have := (List.getElem?_eq_some_iff.1 hj).1
      simp at this; omega
    rw [List.getElem?_take, if_pos hj', List.getElem?_drop] at hj
    exact hj)
  obtain ⟨h4, h5⟩ := map_cn0_of g3 hsc
  have hload := run_loadCells_adr (P := P) (w := w) (a := a) (k := k) vs g2
  rw [g1, hl] at hload
  refine ⟨.agg vs.toArray, ?_, by simp [cn1, h4]⟩
  simp [rdRes, h1, e1, asAddr, loadVar, aggB ht, info_size hz, hload]
inductive RVs (n : Nat) (P : Program) (w0 : World) (O : List Ent) (E : Env) : List ResultVar → List Value → Prop
  | nil : RVs n P w0 O E [] []
  | cons {r : ResultVar} {u : Value} {rs : List ResultVar} {us : List Value} : RV n P w0 O E r u → RVs n P w0 O E rs us → RVs n P w0 O E (r :: rs) (u :: us)
theorem RVs.run {rs : List ResultVar} {us : List Value} (h : RVs n P w0 O E rs us) {a : Act} {w : World} (ha : Models n E a) (hw : Hp w0 O w) :
    ∃ vs : List Value, (rs.mapM (m := Sem) (rdRes a.tmps)).run P w = .ok vs w ∧ vs.map cn1 = us := by
  induction h with
  | nil => exact ⟨[], rfl, rfl⟩
  | cons hr _ ih =>
    obtain ⟨v, h1, h2⟩ := hr a w ha hw
    obtain ⟨vs, h3, h4⟩ := ih
    exact ⟨v :: vs, by simp only [List.mapM_cons, Sem.run_bind, h1, Result.andThen_ok, h3, Sem.run_pure], by simp [h2, h4]⟩
theorem run_results {fn : Func} {rs : List ResultVar} {us : List Value} (hr : fn.results = rs.toArray) (h : RVs n P w0 O E rs us) {a : Act} {w : World} (ha : Models n E a) (hw : Hp w0 O w) :
    ∃ vs : List Value, (results fn a.tmps).run P w = .ok (if h : vs.toArray.size = 1 then vs.toArray[0] else .tuple vs.toArray) w ∧ vs.map cn1 = us := by
  obtain ⟨vs, h1, h2⟩ := h.run ha hw
  refine ⟨vs, ?_, h2⟩
  rw [results_rd, hr, Array.mapM_eq_mapM_toList, Sem.run_bind, Sem.run_map]
  rw [h1]
  rfl
theorem retC {fn : Func} {R : Value → World → Prop} {r : ResultVar} {u : Value} (hr : fn.results = #[r]) (h : RV n P w0 O E r u) (hn : ∀ z, u ≠ .tuple z) (hk : ∀ w, Hp w0 O w → R u w) : VE n w0 O E (Ends P fn R) .ret := by
  intro a w ha hw
  obtain ⟨vs, h1, h2⟩ := run_results (rs := [r]) hr (.cons h .nil) ha hw
  match vs, h2 with
  | [v], h2 =>
    simp only [List.map_cons, List.map_nil, List.cons.injEq, and_true] at h2
    refine bodyPost_ret h1 ha.defers ⟨v, rfl, ?_⟩
    have : cn v = u := by
      rw [← h2] at hn ⊢
      cases v <;> first | rfl | exact absurd rfl (hn _)
    rw [this]; exact hk w hw
end
end Go.Proofs.Ytgeflnjjppgooaa


namespace Go.Proofs.Ytgeflnjjppgooaa
open Go.RowKit Go.ChangeShapes Go.WideShapes Go.Deep

section
variable {H : Type} {enc : TypeId × Value → H} {P : Program} {w : World} {base : Nat} {spare : Nat → Bool} {held : Bool}

theorem trod_fls {k : FloatKind} {t e : TypeId} {fuel : Nat} {cs : List Value} {x : DataW H × List MemPlace} (ht : P.underlying t = some (.slice e)) (he : P.underlying e = some (.float k)) (hc : P.cellsOf e = 1)
    (hd : DataW.trod enc P w base spare held fuel t cs = some x) :
    ∃ (a : Option Addr) (xs : List Nat) (c : Nat), cs = [.slice a xs.length c] ∧ Cl w a (xs.map (Value.float k)) ∧ (∀ x ∈ xs, Can k x) ∧ xs.length ≤ 9223372036854775807 := by
  rcases open_slice1 ht hc hd with ⟨h, _⟩ | ⟨a', len', cap', m, n, V, D, Pl, h, hb, hlc, hm, rfl, hx, hV⟩
  · exact ⟨none, [], 0, h, .inl rfl, by simp, by simp⟩
  · have hm' : len' ≤ (if spare a'.block then cap' else len') := by split <;> omega
    have hfl : ∀ i, i < len' → ∃ b, V i = .float k b ∧ b < 2 ^ k.format.width := by
      intro i hi
      have := (hV i (by omega)).2
      cases n with
      | zero => simp [DataW.trod] at this
      | succ n =>
        simp only [DataW.trod, he] at this
        revert this
        cases V i <;> simp
        intro h1 h2; intros; subst h1; exact ⟨_, ⟨rfl, rfl⟩, wf_lt h2⟩
    obtain ⟨B, hB⟩ := choose_lt hfl
    refine ⟨some a', (List.range len').map (fun i => cb k (B i)), cap', by simp [h], ?_, ?_, ?_⟩
    · by_cases h0 : len' = 0
      · subst h0; exact .inl rfl
      · have hsp : a'.spot = none := by
          have := (hV 0 (by omega)).1
          simpa [Addr.add] using World.cell?_spot this
        obtain ⟨bk, off, spot⟩ := a'
        simp only at hsp
        subst hsp
        refine .inr ⟨_, rfl, rfl, fun i u hu => ?_⟩
        simp only [List.getElem?_map, Option.map_eq_some_iff, List.map_map] at hu
        obtain ⟨j, hj, rfl⟩ := hu
        obtain ⟨hlt, rfl⟩ := List.getElem?_eq_some_iff.1 hj
        simp only [List.length_range] at hlt
        have h1 := (hV i (by omega)).1
        rw [add_plain] at h1
        refine ⟨V i, h1, ?_⟩
        rw [(hB i hlt).1]
        simp [cn, cn1, cn0]
    · intro x hx
      obtain ⟨i, hi, rfl⟩ := List.mem_map.1 hx
      exact can_cb k (hB i (by simpa using hi)).2
    · have hml : maxLen ≤ 9223372036854775807 := by decide
      simp; omega

theorem trod_rows {t e q : TypeId} {fuel : Nat} {cs : List Value} {x : DataW H × List MemPlace} (ht : P.underlying t = some (.slice e)) (he : P.underlying e = some (.slice q)) (hq : P.underlying q = some (.float .f32)) (hc : P.cellsOf e = 1) (hcq : P.cellsOf q = 1)
    (hdd : DataW.trod enc P w base spare held fuel t cs = some x) :
    ∃ (a : Option Addr) (f : Nat → Option Addr × Nat) (xss : List (List Nat)) (c : Nat), cs = [.slice a xss.length c] ∧ Cl w a (hd f xss) ∧ Rws w f xss ∧ Cans xss ∧ xss.length ≤ 9223372036854775807 ∧ ∀ i, i < xss.length → (xss.getD i []).length ≤ 9223372036854775807 := by
  rcases open_slice1 ht hc hdd with ⟨h, _⟩ | ⟨a', len', cap', m, n, V, D, Pl, h, hb, hlc, hm, rfl, hx, hV⟩
  · exact ⟨none, fun _ => (none, 0), [], 0, h, .inl rfl, fun i hi => by simp at hi, fun xs hxs => by simp at hxs, by simp, fun i hi => by simp at hi⟩
  · have hm' : len' ≤ (if spare a'.block then cap' else len') := by split <;> omega
    have hrow : ∀ i, i < len' → ∃ r : (Option Addr × Nat) × List Nat, V i = .slice r.1.1 r.2.length r.1.2 ∧ Cl w r.1.1 (fl r.2) ∧ (∀ x ∈ r.2, Can .f32 x) ∧ r.2.length ≤ 9223372036854775807 := by
      intro i hi
      obtain ⟨a, xs, c, h1, h2, h3, h4⟩ := trod_fls he hq hcq (hV i (by omega)).2
      exact ⟨((a, c), xs), by simpa using h1, h2, h3, h4⟩
    obtain ⟨R, hR⟩ := choose_lt hrow
    have hget : ∀ i, i < len' → ((List.range len').map (fun i => (R i).2)).getD i [] = (R i).2 := fun i hi => by simp [List.getD, hi]
    refine ⟨some a', fun i => (R i).1, (List.range len').map (fun i => (R i).2), cap', by simp [h], ?_, ?_, ?_, ?_, ?_⟩
    · by_cases h0 : len' = 0
      · subst h0; exact .inl rfl
      · have hsp : a'.spot = none := by
          have := (hV 0 (by omega)).1
          simpa [Addr.add] using World.cell?_spot this
        obtain ⟨bk, off, spot⟩ := a'
        simp only at hsp
        subst hsp
        refine .inr ⟨_, rfl, rfl, fun i u hu => ?_⟩
        have hlt : i < len' := by
          have := (List.getElem?_eq_some_iff.1 hu).1
          simpa [hd_length] using this
        rw [hd_get (by simpa using hlt), Option.some.injEq] at hu
        have h1 := (hV i (by omega)).1
        rw [add_plain] at h1
        refine ⟨V i, h1, ?_⟩
        rw [(hR i hlt).1, ← hu, hget i hlt]
        rfl
    · intro i hi
      have hi' : i < len' := by simpa using hi
      rw [hget i hi']
      exact (hR i hi').2.1
    · intro xs hxs
      obtain ⟨i, hi, rfl⟩ := List.mem_map.1 hxs
      exact (hR i (by simpa using hi)).2.2.1
    · have hml : maxLen ≤ 9223372036854775807 := by decide
      simp; omega
    · intro i hi
      have hi' : i < len' := by simpa using hi
      rw [hget i hi']
      exact (hR i hi').2.2.2

/-- A struct's field, by its cells. -/
theorem trod_field {t : TypeId} {fs : Array Field} {fuel : Nat} {cs : List Value} {x : DataW H × List MemPlace} (ht : P.underlying t = some (.struct fs)) (h : DataW.trod enc P w base spare held fuel t cs = some x) :
    cs.length = P.cellsOf t ∧ ∀ (i : Nat) (fd : Field), fs[i]? = some fd → ∃ y n, DataW.trod enc P w base spare held n fd.type ((cs.drop fd.offset).take (P.cellsOf fd.type)) = some y := by
  obtain ⟨xs, n, _, rfl, hl, hlen, hf⟩ := DataW.trod_struct ht h
  refine ⟨hl, fun i fd hi => ?_⟩
  have h1 := hf i fd hi
  have hlt : i < xs.length := by
    have := (Array.getElem?_eq_some_iff.1 hi).1
    omega
  rw [List.getElem?_eq_getElem hlt] at h1
  exact ⟨_, n, h1⟩
end
end Go.Proofs.Ytgeflnjjppgooaa


namespace Go.Proofs.Ytgeflnjjppgooaa
open Go

/-- No entry of these marks is the one that makes deaf, or the one that makes hear. -/
def okMark (m : Mark) : Prop := m ≠ .disable ∧ m ≠ .enable
def NM {α : Type} : Sem α → Prop
  | .pure _ => True
  | .halt _ => True
  | .load _ _ k => ∀ v, NM (k v)
  | .store _ _ _ k => NM k
  | .new _ k => ∀ r, NM (k r)
  | .shape _ k => ∀ s, NM (k s)
  | .freeze _ _ k => NM k
  | .frozen _ k => ∀ b, NM (k b)
  | .getObj _ k => ∀ o, NM (k o)
  | .setObj _ _ k => NM k
  | .choose _ k => ∀ n, NM (k n)
  | .sys _ k => ∀ r, NM (k r)
  | .program k => ∀ p, NM (k p)
  | .mark m k => okMark m ∧ NM k
theorem NM.bind' {α β : Type} {x : Sem α} {f : α → Sem β} (hx : NM x) (hf : ∀ a, NM (f a)) : NM (x.bind f) := by
  induction x with
  | pure a => exact hf a
  | halt h => exact trivial
  | load m a k ih => exact fun v => ih v (hx v)
  | shape r k ih => exact fun s => ih s (hx s)
  | frozen a k ih => exact fun b => ih b (hx b)
  | getObj r k ih => exact fun o => ih o (hx o)
  | program k ih => exact fun p => ih p (hx p)
  | mark m k ih => exact ⟨hx.1, ih hx.2⟩
  | store m a v k ih => exact ih hx
  | new o k ih => exact fun r => ih r (hx r)
  | freeze a n k ih => exact ih hx
  | setObj r o k ih => exact ih hx
  | choose q k ih => exact fun n => ih n (hx n)
  | sys c k ih => exact fun r => ih r (hx r)
theorem NM.bind {α β : Type} {x : Sem α} {f : α → Sem β} (hx : NM x) (hf : ∀ a, NM (f a)) : NM (x >>= f) := NM.bind' hx hf
theorem NM.map {α β : Type} {x : Sem α} {f : α → β} (hx : NM x) : NM (f <$> x) := NM.bind' hx fun _ => trivial
theorem NM.pure {α : Type} (a : α) : NM (Pure.pure a : Sem α) := trivial
theorem NM.ite {α : Type} {c : Prop} [Decidable c] {x y : Sem α} (hx : NM x) (hy : NM y) : NM (if c then x else y) := by split <;> assumption
theorem NM.list {α β : Type} {f : α → β → Sem (ForInStep β)} (hf : ∀ a b, NM (f a b)) : ∀ (l : List α) (b : β), NM (forIn l b f)
  | [], b => by simp only [List.forIn_nil]; exact NM.pure _
  | a :: l, b => by
    rw [List.forIn_cons]
    refine NM.bind (hf a b) fun s => ?_
    cases s with
    | done b => exact NM.pure _
    | yield b => exact NM.list hf l b
theorem NM.array {α β : Type} {f : α → β → Sem (ForInStep β)} (hf : ∀ a b, NM (f a b)) (l : Array α) (b : β) : NM (forIn l b f) := by
  rw [← Array.forIn_toList]; exact NM.list hf _ _
theorem NM.listM {α β : Type} {f : β → α → Sem β} (hf : ∀ b a, NM (f b a)) : ∀ (l : List α) (b : β), NM (l.foldlM f b)
  | [], b => NM.pure _
  | a :: l, b => by rw [List.foldlM_cons]; exact NM.bind (hf b a) fun c => NM.listM hf l c
/-- What is listed. -/
def okEv (e : Event) : Prop := e.loc ≠ .mark .disable ∧ e.loc ≠ .mark .enable
theorem NM.events {α : Type} {x : Sem α} (hx : NM x) (P : Program) : ∀ (w : World) (es : Array Event), (∀ e ∈ es, okEv e) → ∀ e ∈ x.events P w es, okEv e := by
  have push : ∀ (es : Array Event) (e' : Event), okEv e' → (∀ e ∈ es, okEv e) → ∀ e ∈ es.push e', okEv e := fun es e' h' h e he => by
    rcases Array.mem_push.1 he with he | rfl
    · exact h e he
    · exact h'
  have app : ∀ (es : Array Event) (l : List Addr) (wr sy : Bool), (∀ e ∈ es, okEv e) → ∀ e ∈ es ++ l.toArray.map (fun a => (⟨.cell a, wr, sy⟩ : Event)), okEv e := fun es l wr sy h e he => by
    rcases Array.mem_append.1 he with he | he
    · exact h e he
    · obtain ⟨a, _, rfl⟩ := Array.mem_map.1 he
      exact ⟨by simp, by simp⟩
  have c : ∀ a wr sy, okEv ⟨.cell a, wr, sy⟩ := fun _ _ _ => ⟨by simp, by simp⟩
  induction x with
  | pure a => intro w es h; exact h
  | halt a => intro w es h; exact h
  | load m a k ih =>
    intro w es h
    unfold Sem.events
    simp only [Sem.runT]
    split
    · exact ih _ (hx _) _ _ (push _ _ (c _ _ _) h)
    · split
      · exact ih _ (hx _) _ _ (app _ _ _ _ h)
      · exact h
  | store m a v k ih =>
    intro w es h
    unfold Sem.events
    cases v <;> simp only [Sem.runT] <;> first
      | exact h
      | (split <;> split <;> first
          | exact h
          | exact ih hx _ _ (push _ _ (c _ _ _) h)
          | exact ih hx _ _ (app _ _ _ _ h))
  | new o k ih => intro w es h; exact ih _ (hx _) _ _ h
  | shape r k ih => intro w es h; exact ih _ (hx _) _ _ h
  | freeze a n k ih => intro w es h; exact ih hx _ _ h
  | frozen a k ih => intro w es h; exact ih _ (hx _) _ _ h
  | getObj r k ih =>
    intro w es h
    unfold Sem.events
    simp only [Sem.runT]
    split
    · exact h
    · exact ih _ (hx _) _ _ (push _ _ ⟨by simp, by simp⟩ h)
    · exact h
  | setObj r o k ih =>
    intro w es h
    unfold Sem.events
    simp only [Sem.runT]
    split
    · exact h
    · exact ih hx _ _ (push _ _ ⟨by simp, by simp⟩ h)
    · exact h
  | choose q k ih =>
    intro w es h
    unfold Sem.events
    simp only [Sem.runT]
    split
    · exact ih _ (hx _) _ _ h
    · exact ih _ (hx _) _ _ h
  | sys s k ih => intro w es h; exact ih _ (hx _) _ _ (push _ _ ⟨by simp, by simp⟩ h)
  | program k ih => intro w es h; exact ih _ (hx _) _ _ h
  | mark m k ih => intro w es h; exact ih hx.2 _ _ (push _ _ ⟨fun e => hx.1.1 (by simpa using e), fun e => hx.1.2 (by simpa using e)⟩ h)


end Go.Proofs.Ytgeflnjjppgooaa


namespace Go.Proofs.Ytgeflnjjppgooaa
open Go

/-- How a block stands in a view, and in the world. -/
inductive BR (b : Nat) : Option Obj → Option Obj → Prop
  | same {x : Option Obj} (h : ∀ a t, x ≠ some (.view a t)) : BR b x x
  | view {a : Addr} {t : TypeId} : BR b (some (.view ⟨b, 0, none⟩ 0)) (some (.view a t))
  | dead {c : Array Value} {ty : TypeId} {z : Nat × Nat} : BR b (some (.cells #[] ty (0, 0))) (some (.cells c ty z))
  | fro {c : Array Value} {ty : TypeId} {z : Nat × Nat} : BR b (some (.cells c ty (0, c.size))) (some (.cells c ty z))
structure View (v w : World) : Prop where
  rest : w = { v with heap := w.heap }
  size : v.heap.size = w.heap.size
  blk : ∀ b : Nat, BR b v.heap[b]? w.heap[b]?
/-- A cell of the block may be written. -/
def Liv (v : World) (b : Nat) : Prop := ∃ c ty z, v.heap[b]? = some (.cells c ty z) ∧ c ≠ #[] ∧ z ≠ (0, c.size)
/-- .. may be read. -/
def Rdb (v : World) (b : Nat) : Prop := ∃ c ty z, v.heap[b]? = some (.cells c ty z) ∧ c ≠ #[]
theorem Liv.rdb {v : World} {b : Nat} (h : Liv v b) : Rdb v b := let ⟨c, ty, z, h1, h2, _⟩ := h; ⟨c, ty, z, h1, h2⟩
/-- A block that is no row of cells. -/
def Odd (v : World) (b : Nat) : Prop := ∃ o, v.heap[b]? = some o ∧ ∀ c ty z, o ≠ .cells c ty z
/-- What may be listed: v as it was ahead, B: the count of blocks behind. -/
def EvOk (v : World) (B : Nat) (e : Event) : Prop :=
  match e.loc with
  | .cell a => a.block < B ∧ (v.heap.size ≤ a.block ∨ (if e.write = true then Liv v a.block else Rdb v a.block))
  | .obj r => e.write = false ∧ r < B ∧ (v.heap.size ≤ r ∨ Odd v r)
  | .mark m => m = .noRoom ∨ ∃ f, m = .extern f
  | _ => False
structure Chg (v v' w w' : World) : Prop where
  view : View v' w'
  grow : v.heap.size ≤ v'.heap.size
  same : ∀ b : Nat, v.heap[b]? = w.heap[b]? → v'.heap[b]? = w'.heap[b]?
  keep : ∀ b : Nat, b < v.heap.size → ¬ Liv v b → v'.heap[b]? = v.heap[b]? ∧ w'.heap[b]? = w.heap[b]?
  odd : ∀ b : Nat, b < v.heap.size → (Odd v' b ↔ Odd v b)
  tape : v'.tape = v.tape
  os : v'.os = v.os
  output : v'.output = v.output
  kind : ∀ (b : Nat) c ty z, v.heap[b]? = some (.cells c ty z) → ∃ c' z', v'.heap[b]? = some (.cells c' ty z')
  stay : ∀ b, Liv v b → Liv v' b

section
variable {v v' v'' w w' w'' : World}
theorem View.at (h : View v w) (d : Nat) : View (v.at d) (w.at d) := ⟨by rw [h.rest]; rfl, h.size, h.blk⟩
theorem Chg.refl (h : View v w) : Chg v v w w := ⟨h, Nat.le_refl _, fun _ h => h, fun _ _ _ => ⟨rfl, rfl⟩, fun _ _ => Iff.rfl, rfl, rfl, rfl, fun _ c _ z h => ⟨c, z, h⟩, fun _ h => h⟩
theorem Chg.liv (h : Chg v v' w w') {b : Nat} (hb : b < v.heap.size) (hl : Liv v' b) : Liv v b := by
  refine Classical.byContradiction fun hn => hn ?_
  obtain ⟨c, ty, z, h1, h2, h3⟩ := hl
  exact ⟨c, ty, z, ((h.keep b hb hn).1.symm.trans h1), h2, h3⟩
theorem Chg.rdb (h : Chg v v' w w') {b : Nat} (hb : b < v.heap.size) (hl : Rdb v' b) : Rdb v b := by
  by_cases hn : Liv v b
  · exact hn.rdb
  · obtain ⟨c, ty, z, h1, h2⟩ := hl
    exact ⟨c, ty, z, ((h.keep b hb hn).1.symm.trans h1), h2⟩
theorem Chg.trans (h : Chg v v' w w') (k : Chg v' v'' w' w'') : Chg v v'' w w'' := by
  refine ⟨k.view, Nat.le_trans h.grow k.grow, fun b hb => k.same b (h.same b hb), fun b hb hn => ?_, fun b hb => (k.odd b (Nat.lt_of_lt_of_le hb h.grow)).trans (h.odd b hb), k.tape.trans h.tape, k.os.trans h.os, k.output.trans h.output, fun b c ty z hb => let ⟨_, _, h1⟩ := h.kind b c ty z hb; k.kind b _ ty _ h1, fun b hb => k.stay b (h.stay b hb)⟩
  have h1 := h.keep b hb hn
  have h2 := k.keep b (Nat.lt_of_lt_of_le hb h.grow) (fun hl => hn (h.liv hb hl))
  exact ⟨h2.1.trans h1.1, h2.2.trans h1.2⟩
theorem EvOk.mono {B B' : Nat} {e : Event} (h : EvOk v B e) (hB : B ≤ B') : EvOk v B' e := by
  unfold EvOk at h ⊢
  split <;> simp_all <;> omega
theorem EvOk.back (h : Chg v v' w w') {B : Nat} {e : Event} (he : EvOk v' B e) : EvOk v B e := by
  unfold EvOk at he ⊢
  split
  · rename_i a ha
    rw [ha] at he
    refine ⟨he.1, ?_⟩
    rcases Nat.lt_or_ge a.block v.heap.size with hlt | hge
    · refine .inr ?_
      rcases he.2 with h1 | h1
      · have := h.grow; omega
      · split at h1
        · rename_i hw; rw [if_pos hw]; exact h.liv hlt h1
        · rename_i hw; rw [if_neg hw]; exact h.rdb hlt h1
    · exact .inl hge
  · rename_i r hr
    rw [hr] at he
    refine ⟨he.1, he.2.1, ?_⟩
    rcases Nat.lt_or_ge r v.heap.size with hlt | hge
    · rcases he.2.2 with h1 | h1
      · have := h.grow; omega
      · exact .inr ((h.odd r hlt).1 h1)
    · exact .inl hge
  · rename_i m hm; rw [hm] at he; exact he
  · rename_i h1 h2 h3
    cases hl : e.loc <;> rw [hl] at he <;> first | exact he | exact absurd hl (h1 _) | exact absurd hl (h2 _) | exact absurd hl (h3 _)
end

/-- What runs in a view runs in the world. -/
def FR (P : Program) {α : Type} (x : Sem α) : Prop :=
  ∀ v w, View v w → ∀ a v', x.run P v = .ok a v' → ∃ w', x.run P w = .ok a w' ∧ Chg v v' w w' ∧ ∀ es, ∀ e ∈ x.events P w es, e ∈ es ∨ EvOk v v'.heap.size e

section
variable {P : Program} {α β : Type}
theorem FR.pure (a : α) : FR P (Pure.pure a : Sem α) := fun v w h b v' hr => by
  simp only [Sem.run_pure, Result.ok.injEq] at hr
  obtain ⟨rfl, rfl⟩ := hr
  exact ⟨w, by simp, .refl h, fun es e he => .inl (by simpa using he)⟩
theorem FR.halt (x : Halt) : FR P (.halt x : Sem α) := fun v w h b v' hr => by simp [Sem.run] at hr
theorem FR.bind {x : Sem α} {f : α → Sem β} (hx : FR P x) (hf : ∀ a, FR P (f a)) : FR P (x >>= f) := fun v w h b v' hr => by
  rw [Sem.run_bind] at hr
  cases hxr : x.run P v with
  | halt k u => rw [hxr] at hr; cases hr
  | ok a u =>
    rw [hxr] at hr
    simp only [Result.andThen_ok] at hr
    obtain ⟨w1, h1, h2, h3⟩ := hx v w h a u hxr
    obtain ⟨w2, k1, k2, k3⟩ := hf a u w1 h2.view b v' hr
    refine ⟨w2, by rw [Sem.run_bind, h1]; exact k1, h2.trans k2, fun es e he => ?_⟩
    rw [Sem.events_bind, h1, Result.evThen_ok] at he
    rcases k3 _ e he with he | he
    · rcases h3 _ e he with he | he
      · exact .inl he
      · exact .inr (he.mono k2.grow)
    · exact .inr (he.back h2)
theorem FR.map {x : Sem α} {f : α → β} (hx : FR P x) : FR P (f <$> x) := by
  have := FR.bind hx fun a => FR.pure (f a)
  exact this
theorem FR.ite {c : Prop} [Decidable c] {x y : Sem α} (hx : FR P x) (hy : FR P y) : FR P (if c then x else y) := by split <;> assumption
theorem FR.list {f : α → β → Sem (ForInStep β)} (hf : ∀ a b, FR P (f a b)) : ∀ (l : List α) (b : β), FR P (forIn l b f)
  | [], b => by simp only [List.forIn_nil]; exact FR.pure _
  | a :: l, b => by
    rw [List.forIn_cons]
    refine FR.bind (hf a b) fun s => ?_
    cases s with
    | done b => exact FR.pure _
    | yield b => exact FR.list hf l b
theorem FR.array {f : α → β → Sem (ForInStep β)} (hf : ∀ a b, FR P (f a b)) (l : Array α) (b : β) : FR P (forIn l b f) := by
  rw [← Array.forIn_toList]; exact FR.list hf _ _
theorem FR.listM {f : β → α → Sem β} (hf : ∀ b a, FR P (f b a)) : ∀ (l : List α) (b : β), FR P (l.foldlM f b)
  | [], b => FR.pure _
  | a :: l, b => by rw [List.foldlM_cons]; exact FR.bind (hf b a) fun c => FR.listM hf l c
theorem FR.range {f : Nat → β → Sem (ForInStep β)} (hf : ∀ a b, FR P (f a b)) (r : Std.Legacy.Range) (b : β) : FR P (forIn r b f) := by
  rw [Std.Legacy.Range.forIn_eq_forIn_range']; exact FR.list hf _ _
theorem FR.listMapM {f : α → Sem β} (hf : ∀ a, FR P (f a)) : ∀ l : List α, FR P (l.mapM f)
  | [] => FR.pure _
  | a :: l => by rw [List.mapM_cons]; exact FR.bind (hf a) fun _ => FR.bind (FR.listMapM hf l) fun _ => FR.pure _
theorem FR.arrayMapM {f : α → Sem β} (hf : ∀ a, FR P (f a)) (l : Array α) : FR P (l.mapM f) := by
  rw [Array.mapM_eq_mapM_toList]; exact FR.map (FR.listMapM hf _)
/-- It never comes to a value. -/
theorem FR.never {x : Sem α} (h : ∀ v a v', x.run P v ≠ .ok a v') : FR P x := fun v _ _ a v' hr => absurd hr (h v a v')
theorem never_bind {x : Sem α} {f : α → Sem β} (h : ∀ a v b v', (f a).run P v ≠ .ok b v') : ∀ v b v', (x >>= f).run P v ≠ .ok b v' := fun v b v' hr => by
  rw [Sem.run_bind] at hr
  cases hxr : x.run P v with
  | halt k u => rw [hxr] at hr; cases hr
  | ok a u => rw [hxr] at hr; exact h a u b v' hr
end

/-! ### the primitives -/
section
variable {P : Program} {v w : World}
theorem View.cell (h : View v w) {a : Addr} {x : Value} (hx : v.cell? a = some x) : w.cell? a = some x ∧ Rdb v a.block ∧ a.block < v.heap.size := by
  have hb := h.blk a.block
  unfold World.cell? at hx ⊢
  cases hv : v.heap[a.block]? with
  | none => rw [hv] at hx; cases hx
  | some o =>
    have hlt : a.block < v.heap.size := (Array.getElem?_eq_some_iff.1 hv).1
    rw [hv] at hx hb
    cases o <;> try cases hx
    rename_i c ty z
    simp only at hx
    split at hx
    · cases hx
    · rename_i hs
      have hc : c ≠ #[] := by rintro rfl; simp at hx
      refine ⟨?_, ⟨c, ty, z, hv, hc⟩, hlt⟩
      generalize w.heap[a.block]? = y at hb
      cases hb with
      | same _ => simp [hs, hx]
      | dead => simp at hx
      | fro => simp [hs, hx]
theorem seen_self {b : Nat} {at_ : Addr} {u : TypeId} (hb : v.heap[b]? = some (.view at_ u)) (u' : TypeId) (k : Addr) (atomic : Bool) : ∃ s, v.seen P ⟨b, 0, none⟩ u' k atomic = .error s := by
  unfold World.seen
  simp only [bind, Except.bind, hb]
  repeat (first | exact ⟨_, rfl⟩ | split)
theorem viewLoad_self {b : Nat} {at_ : Addr} {u : TypeId} (hb : v.heap[b]? = some (.view at_ u)) (u' : TypeId) (k : Addr) (atomic : Bool) : ∃ s, v.viewLoad P ⟨b, 0, none⟩ u' k atomic = .error s := by
  obtain ⟨s, hs⟩ := seen_self (P := P) hb u' k atomic
  unfold World.viewLoad
  rw [hs]
  exact ⟨_, rfl⟩
theorem viewStore_self {b : Nat} {at_ : Addr} {u : TypeId} (hb : v.heap[b]? = some (.view at_ u)) (u' : TypeId) (k : Addr) (x : Value) (atomic : Bool) : ∃ s, v.viewStore P ⟨b, 0, none⟩ u' k x atomic = .error s := by
  obtain ⟨s, hs⟩ := seen_self (P := P) hb u' k atomic
  unfold World.viewStore
  rw [hs]
  simp only [bind, Except.bind]
  repeat (first | exact ⟨_, rfl⟩ | split)
theorem View.far (h : View v w) (a : Addr) (b : Bool) : ∃ e, v.farLoad P a b = .error e := by
  unfold World.farLoad
  have hb := h.blk a.block
  split
  · rename_i at_ u hv
    rw [hv] at hb
    generalize w.heap[a.block]? = y at hb
    cases hb with
    | same hn => exact absurd rfl (hn _ _)
    | view =>
      obtain ⟨s, hs⟩ := viewLoad_self (P := P) hv 0 a b
      rw [hs]; exact ⟨_, rfl⟩
  · exact ⟨_, rfl⟩
theorem View.farS (h : View v w) (a : Addr) (x : Value) (b : Bool) : ∃ e, v.farStore P a x b = .error e := by
  unfold World.farStore
  have hb := h.blk a.block
  split
  · rename_i at_ u hv
    rw [hv] at hb
    generalize w.heap[a.block]? = y at hb
    cases hb with
    | same hn => exact absurd rfl (hn _ _)
    | view =>
      obtain ⟨s, hs⟩ := viewStore_self (P := P) hv 0 a x b
      rw [hs]; exact ⟨_, rfl⟩
  · exact ⟨_, rfl⟩
theorem fr_load (a : Addr) (m : Mode) : FR P (load a m) := fun v w h x v' hr => by
  unfold load at hr ⊢
  simp only [Sem.run] at hr ⊢
  cases hc : v.cell? a with
  | none =>
    rw [hc] at hr
    obtain ⟨e, he⟩ := h.far (P := P) a (m == .atomic)
    simp only [he] at hr
    cases hr
  | some y =>
    rw [hc] at hr
    simp only [Result.ok.injEq] at hr
    obtain ⟨rfl, rfl⟩ := hr
    obtain ⟨h1, h2, h3⟩ := h.cell hc
    refine ⟨w, by rw [h1], .refl h, fun es e he => ?_⟩
    simp only [Sem.events, Sem.runT, h1] at he
    rcases Array.mem_push.1 he with he | rfl
    · exact .inl he
    · exact .inr ⟨h3, .inr (by simpa using h2)⟩
theorem fr_newObj (o : Obj) (ho : ∀ a t, o ≠ .view a t) : FR P (newObj o) := fun v w h x v' hr => by
  unfold newObj at hr ⊢
  simp only [Sem.run, Result.ok.injEq] at hr ⊢
  obtain ⟨rfl, rfl⟩ := hr
  refine ⟨_, ⟨h.size.symm, rfl⟩, ⟨⟨by rw [h.rest], by simp [h.size], fun b => ?_⟩, by simp, fun b hb => ?_, fun b hb _ => ?_, fun b hb => ?_, rfl, rfl, rfl, fun b c ty z hb => ?_, fun b hb => ?_⟩, fun es e he => .inl he⟩
  · simp only [Array.getElem?_push, h.size]
    split
    · exact .same fun a t => by simpa using ho a t
    · exact h.blk b
  · simp only [Array.getElem?_push, h.size]
    split
    · rfl
    · exact hb
  · simp only [Array.getElem?_push, ← h.size]
    rw [if_neg (by omega)]
    exact ⟨rfl, by rw [if_neg (by omega)]⟩
  · simp only [Odd, Array.getElem?_push]
    rw [if_neg (by omega)]
  · have := (Array.getElem?_eq_some_iff.1 hb).1
    exact ⟨c, z, by rw [Array.getElem?_push, if_neg (by omega)]; exact hb⟩
  · obtain ⟨c, ty, z, h1, h2, h3⟩ := hb
    have := (Array.getElem?_eq_some_iff.1 h1).1
    exact ⟨c, ty, z, by rw [Array.getElem?_push, if_neg (by omega)]; exact h1, h2, h3⟩
theorem fr_choose (q : Question) : FR P (choose q) := fun v w h x v' hr => by
  unfold choose at hr ⊢
  simp only [Sem.run] at hr ⊢
  have e1 : w.tape = v.tape := by rw [h.rest]
  have e2 : w.drawn = v.drawn := by rw [h.rest]
  split at hr
  · rename_i hf
    simp only [Result.ok.injEq] at hr
    obtain ⟨rfl, rfl⟩ := hr
    exact ⟨w, by rw [if_pos hf], .refl h, fun es e he => .inl (by simpa [Sem.events, Sem.runT, hf] using he)⟩
  · rename_i hf
    simp only [Result.ok.injEq] at hr
    obtain ⟨rfl, rfl⟩ := hr
    refine ⟨{ w with drawn := w.drawn + 1 }, by rw [if_neg hf, e1, e2], ⟨⟨by rw [h.rest], h.size, h.blk⟩, Nat.le_refl _, fun _ h => h, fun _ _ _ => ⟨rfl, rfl⟩, fun _ _ => Iff.rfl, rfl, rfl, rfl, fun _ c _ z h => ⟨c, z, h⟩, fun _ h => h⟩, fun es e he => .inl (by simpa [Sem.events, Sem.runT, hf] using he)⟩
theorem fr_program : FR P program := fun v w h x v' hr => by
  unfold program at hr ⊢
  simp only [Sem.run, Result.ok.injEq] at hr ⊢
  obtain ⟨rfl, rfl⟩ := hr
  exact ⟨w, ⟨rfl, rfl⟩, .refl h, fun es e he => .inl he⟩
theorem fr_noRoom : FR P (mark .noRoom) := fun v w h x v' hr => by
  unfold mark at hr ⊢
  simp only [Sem.run, Result.ok.injEq] at hr ⊢
  obtain ⟨_, rfl⟩ := hr
  refine ⟨w, ⟨trivial, rfl⟩, .refl h, fun es e he => ?_⟩
  simp only [Sem.events, Sem.runT] at he
  rcases Array.mem_push.1 he with he | rfl
  · exact .inl he
  · exact .inr (.inl rfl)
theorem fr_stuck {α : Type} (s : String) : FR P (stuck s : Sem α) := FR.halt _
theorem fr_unsupported {α : Type} (s : Unsupported) : FR P (unsupported s : Sem α) := FR.halt _
theorem fr_goPanic {α : Type} (s : Value) : FR P (goPanic s : Sem α) := FR.halt _
theorem setCell_heap (w : World) (a : Addr) (x : Value) (b : Nat) : (w.setCell a x).heap[b]? = if a.block = b then (w.heap[b]?).map (fun o => match o with | .cells c t z => .cells (if a.spot.isSome = true then c else c.setIfInBounds a.off x) t z | o => o) else w.heap[b]? := by
  simp only [World.setCell, Array.getElem?_modify]
  rfl
theorem fr_store (a : Addr) (x : Value) (m : Mode) : FR P (store a x m) := fun v w h u v' hr => by
  unfold store at hr ⊢
  have key : ∀ y, (Sem.store m a y (.pure ())).run P v = .ok u v' → (∀ cs, y ≠ .agg cs) → (∀ cs, y ≠ .tuple cs) → ∃ w', (Sem.store m a y (.pure ())).run P w = .ok u w' ∧ Chg v v' w w' ∧ ∀ es, ∀ e ∈ (Sem.store m a y (.pure ()) : Sem Unit).events P w es, e ∈ es ∨ EvOk v v'.heap.size e := by
    intro y hr hy1 hy2
    have run : ∀ u : World, (Sem.store m a y (.pure ()) : Sem Unit).run P u = match u.cell? a with
        | some _ => if u.frozen? a then .halt (.unsupported (.unsafePointer "a write to bytes that a string shares")) u else .ok () (u.setCell a y)
        | none => match u.farStore P a y (m == .atomic) with
          | .ok (u, _) => .ok () u
          | .error h => .halt h u := by
      intro u
      cases y <;> first | exact absurd rfl (hy1 _) | exact absurd rfl (hy2 _) | (simp only [Sem.run]; rfl)
    rw [run] at hr
    cases hc : v.cell? a with
    | none =>
      rw [hc] at hr
      obtain ⟨e, he⟩ := h.farS (P := P) a y (m == .atomic)
      simp only [he] at hr
      cases hr
    | some y0 =>
      rw [hc] at hr
      simp only at hr
      split at hr
      · cases hr
      rename_i hfr
      simp only [Result.ok.injEq] at hr
      obtain ⟨_, rfl⟩ := hr
      obtain ⟨h1, ⟨c, ty, z, hv, hne⟩, h3⟩ := h.cell hc
      have hoff : a.off < c.size := by
        unfold World.cell? at hc
        rw [hv] at hc
        simp only at hc
        split at hc
        · cases hc
        · exact (Array.getElem?_eq_some_iff.1 hc).1
      have hz : z ≠ (0, c.size) := by
        rintro rfl
        apply hfr
        simp [World.frozen?, hv, hoff]
      have hl : Liv v a.block := ⟨c, ty, z, hv, hne, hz⟩
      have hw : w.heap[a.block]? = some (.cells c ty z) := by
        have hb := h.blk a.block
        rw [hv] at hb
        generalize w.heap[a.block]? = y at hb
        cases hb with
        | same _ => rfl
        | dead => exact absurd rfl hne
        | fro => exact absurd rfl hz
      have hfw : w.frozen? a = false := by
        have : w.frozen? a = v.frozen? a := by simp [World.frozen?, hv, hw]
        rw [this]; simpa using hfr
      refine ⟨w.setCell a y, by rw [run, h1]; simp [hfw], ⟨⟨by rw [h.rest]; rfl, by simp [World.setCell, h.size], fun b => ?_⟩, by simp [World.setCell], fun b hb => ?_, fun b hb hn => ?_, fun b hb => ?_, rfl, rfl, rfl, fun b c ty z hb => ?_, fun b hb => ?_⟩, fun es e he => ?_⟩
      · rw [setCell_heap, setCell_heap]
        split
        · rename_i hab
          subst hab
          rw [hv, hw]
          exact .same fun a t => by simp
        · exact h.blk b
      · rw [setCell_heap, setCell_heap, hb]
      · rw [setCell_heap, setCell_heap]
        have : a.block ≠ b := by rintro rfl; exact hn hl
        simp [this]
      · simp only [Odd, setCell_heap]
        split
        · rename_i hab
          subst hab
          rw [hv]
          constructor <;> (rintro ⟨o, ho, hn⟩; simp at ho; subst ho; exact absurd rfl (hn _ _ _))
        · rfl
      · rw [setCell_heap, hb]
        split
        · exact ⟨_, _, rfl⟩
        · exact ⟨_, _, rfl⟩
      · obtain ⟨c, ty, z, h1, h2, h3⟩ := hb
        unfold Liv
        rw [setCell_heap, h1]
        split
        · refine ⟨_, _, _, rfl, ?_, ?_⟩
          · split
            · exact h2
            · intro e; apply h2
              have := congrArg Array.size e
              simp at this
              exact this
          · split
            · exact h3
            · simpa using h3
        · exact ⟨_, _, _, rfl, h2, h3⟩
      · have ev : (Sem.store m a y (.pure ()) : Sem Unit).events P w es = es.push ⟨.cell a, true, m == .atomic⟩ := by
          cases y <;> first | exact absurd rfl (hy1 _) | exact absurd rfl (hy2 _) | (simp only [Sem.events, Sem.runT, h1, hfw]; rfl)
        rw [ev] at he
        rcases Array.mem_push.1 he with he | rfl
        · exact .inl he
        · exact .inr ⟨by simpa [World.setCell] using h3, .inr (by simpa using hl)⟩
  by_cases h1 : ∃ cs, x = .agg cs
  · obtain ⟨cs, rfl⟩ := h1
    simp [Sem.run] at hr
  by_cases h2 : ∃ cs, x = .tuple cs
  · obtain ⟨cs, rfl⟩ := h2
    simp [Sem.run] at hr
  exact key _ hr (fun cs h => h1 ⟨cs, h⟩) (fun cs h => h2 ⟨cs, h⟩)
/-- The shape of a block, where its length is not looked at. -/
theorem fr_shapeE {α : Type} {r : Nat} {k : Option (TypeId × Nat) → Sem α} (he : ∀ e n n', k (some (e, n)) = k (some (e, n'))) (hk : ∀ s, FR P (k s)) : FR P (shape r >>= k) := fun v w h a v' hr => by
  have run : ∀ u : World, (shape r >>= k).run P u = (k (u.shape? r)).run P u := fun _ => rfl
  have ev : ∀ (u : World) es, (shape r >>= k).events P u es = (k (u.shape? r)).events P u es := fun _ _ => rfl
  have heq : k (v.shape? r) = k (w.shape? r) := by
    have hb := h.blk r
    unfold World.shape?
    generalize v.heap[r]? = x at hb
    generalize w.heap[r]? = y at hb
    cases hb with
    | same _ => rfl
    | view => rfl
    | dead => exact he _ _ _
    | fro => rfl
  rw [run] at hr
  obtain ⟨w', h1, h2, h3⟩ := hk _ v w h a v' hr
  refine ⟨w', by rw [run, ← heq]; exact h1, h2, fun es e he => ?_⟩
  rw [ev, ← heq] at he
  exact h3 es e he
end
end Go.Proofs.Ytgeflnjjppgooaa

