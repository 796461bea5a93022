/- Own texts of this claim, merged: Field, Line, PackA, Slice, Bytes, Mesh, PackB, PackC, Sharp, SharpB, SharpC, AbsA, Text, Unp, UnpB, UnpE, UnpF, UnpG, MaxF, Rnd, R8, OpenB, WBase, WChol, WIn, WVec, WWire, WField. -/
import Derived.Laws.BytesString
import Derived.Test.YtfkblhlkeglilaaProg
import Derived.KernelRfl
import Derived.Test.YtfkblhlkeglilaaKFnLines2
namespace Go.Proofs.Ytfkblhlkeglilaa
open Go.RowKit
def sl : List (V3 × V3) → List Value
  | [] => []
  | s :: ss => .float .f32 s.1.1 :: .float .f32 s.1.2.1 :: .float .f32 s.1.2.2 :: .float .f32 s.2.1 :: .float .f32 s.2.2.1 :: .float .f32 s.2.2.2 :: sl ss
theorem sl_length : ∀ ss : List (V3 × V3), (sl ss).length = ss.length * 6
  | [] => rfl
  | s :: ss => by simp only [sl, List.length_cons, sl_length ss]; omega
theorem sl_scal : ∀ ss : List (V3 × V3), (sl ss).all scal = true
  | [] => rfl
  | s :: ss => by simp only [sl, List.all_cons, sl_scal ss, scal, Bool.and_self]
theorem sl_append : ∀ us vs : List (V3 × V3), sl us ++ sl vs = sl (us ++ vs)
  | [], vs => rfl
  | u :: us, vs => by simp only [sl, List.cons_append, sl_append us vs]
theorem sl_take : ∀ (ss : List (V3 × V3)) (k : Nat), k < ss.length → ((sl ss).drop (k * 6)).take 6 = sl [ss.getD k (z3, z3)]
  | [], _, h => by simp at h
  | s :: ss, 0, _ => rfl
  | s :: ss, k + 1, h => by
    have ih := sl_take ss k (by simpa using h)
    rw [show (k + 1) * 6 = k * 6 + 1 + 1 + 1 + 1 + 1 + 1 by omega]
    simpa [sl, List.getD] using ih
def segK (w : Wr) (k : Nat) : List (V3 × V3) := (List.range k).map fun i => (segA w i, segB w i)
theorem segK_length (w : Wr) (k : Nat) : (segK w k).length = k := by simp [segK]
theorem segK_snoc (w : Wr) (k : Nat) : sl (segK w k) ++ sl [(segA w k, segB w k)] = sl (segK w (k + 1)) := by
  rw [sl_append]; simp [segK, List.range_succ]
theorem segK_get (w : Wr) {k m : Nat} (h : k < m) : (segK w m).getD k (z3, z3) = (segA w k, segB w k) := by simp [segK, List.getD, h]
theorem segB_in {w : Wr} {i : Nat} (h : i + 1 < w.1.length) : segB w i = w.1.getD (i + 1) z3 := by unfold segB; rw [Nat.mod_eq_of_lt h]
theorem segB_end {w : Wr} {i : Nat} (h : i + 1 = w.1.length) : segB w i = w.1.getD 0 z3 := by unfold segB; rw [h, Nat.mod_self]
theorem tmod_nat (i n : Nat) : ((i : Int) + 1).tmod (n : Int) = (((i + 1) % n : Nat) : Int) := by
  rw [show ((i : Int) + 1) = ((i + 1 : Nat) : Int) by omega]
  exact (Int.ofNat_tmod _ _).symm
section
variable {P : Program} {n : Nat} {w0 : World} {O : List Ent} {E : Env} {o : Oper}
theorem yq_loadG {t : TypeId} {x : Operand} {a : Option Addr} {k : Nat} {w : Wr} {m : Nat} {fs : Array Field} (ho : o.op = .load t x) (ht : P.underlying t = some (.struct fs)) (hz : (P.info? t).map (·.size) = some 6) (hx : E.opd x = some (.pointer (some (adr a (k * 6))))) (hs : Sees w0 O a (sl (segK w m))) (hk : k < m) :
    YQ P w0 O E o (.agg #[.float .f32 (segA w k).1, .float .f32 (segA w k).2.1, .float .f32 (segA w k).2.2, .float .f32 (segB w k).1, .float .f32 (segB w k).2.1, .float .f32 (segB w k).2.2]) := by
  have h := sl_take (segK w m) k (by rw [segK_length]; exact hk)
  rw [segK_get w hk] at h
  exact yq_loadS ho ht hz hx hs h rfl rfl
end
def ifV (v : V3) : V3 := if fin3 v then v else z3
theorem ifV_yes {v : V3} (h : fin3 v = true) : v = ifV v := by unfold ifV; rw [h]; rfl
theorem ifV_no {v : V3} (h : fin3 v = false) : z3 = ifV v := by unfold ifV; rw [h]; rfl
theorem wire_len {ws : List Wr} (h : wiresOk ws = true) {k : Nat} (hk : k < ws.length) : 2 ≤ (ws.getD k zw).1.length ∧ (ws.getD k zw).1.length ≤ 48 := by
  unfold wiresOk at h
  rw [Bool.and_eq_true] at h
  have := wire_is (wall_getD.1 h.2 k hk)
  exact ⟨this.1, this.2.1⟩
theorem wires_len {ws : List Wr} (h : wiresOk ws = true) : ws.length ≤ 8 := by
  unfold wiresOk at h
  rw [Bool.and_eq_true, decide_eq_true_eq] at h
  exact h.1
theorem segN_le {w : Wr} : segN w ≤ w.1.length := by unfold segN; split <;> omega
end Go.Proofs.Ytfkblhlkeglilaa

namespace Go.Proofs.Ytfkblhlkeglilaa
open Go.RowKit
theorem fin_of_rng {x : Nat} (h : rng Ieee.single x < Ieee.single.infRung) : fin x = true := by
  have key : fop .sub .f32 x x = Ieee.single.word false 0 := by
    obtain ⟨m, e, h1, h2⟩ := read_number Ieee.single h
    unfold fop floatBits Ieee.Format.sub
    simp only [show FloatKind.f32.format = Ieee.single from rfl, h1, Ieee.Datum.opposite, Ieee.Datum.sum, Option.map_some, Option.getD_some, signed_val, Int.min_self, Int.sub_self]
    show Ieee.single.nearest _ _ _ = _
    have e1 : ∀ (s : Bool) (u : Int), (if s = true then -u else u) + (if (!s) = true then -u else u) = 0 := by
      intro s u; cases s <;> simp <;> omega
    rw [e1]
    simp only [if_true, Int.natAbs_zero]
    have e2 : (sgn Ieee.single x && !sgn Ieee.single x) = false := by cases sgn Ieee.single x <;> rfl
    rw [e2]
    exact nearest_units Ieee.single false (a := 0) (b := e) (Nat.zero_le _) (by omega) (by simp [(units_zero Ieee.single).2 rfl])
  unfold fin
  rw [key]
  decide
theorem fin_mul {a k : Nat} (h : fin (fop .mul .f32 a k) = true) : fin a = true := by
  cases hn : fnan .f32 a
  · rcases Nat.lt_or_ge (rng Ieee.single a) Ieee.single.infRung with hl | hl
    · exact fin_of_rng hl
    · exfalso
      have hi : Ieee.single.read a = .infinity (sgn Ieee.single a) := read_inf .f32 (Nat.le_antisymm (rng_le hn) hl)
      revert h
      unfold fop floatBits Ieee.Format.mul
      simp only [show FloatKind.f32.format = Ieee.single from rfl, hi]
      generalize sgn Ieee.single a = s
      generalize Ieee.single.read k = d
      cases d with
      | nan => simp only [Ieee.Datum.product, Option.map_none, Option.getD_none]; decide
      | infinity t => simp only [Ieee.Datum.product, Option.map_some, Option.getD_some]; cases s <;> cases t <;> decide
      | number t n i =>
        simp only [Ieee.Datum.product]
        split
        · simp only [Option.map_none, Option.getD_none]; decide
        · simp only [Option.map_some, Option.getD_some]; cases s <;> cases t <;> decide
  · exfalso
    have h1 : fop .mul .f32 a k = qn .f32 := by simp [fop, floatBits_nan_left hn]
    rw [h1] at h
    revert h
    decide
theorem fin_scale {a : V3} {k : Nat} (h : fin3 (scale3 a k) = true) : fin3 a = true := by
  unfold fin3 scale3 at h
  simp only [Bool.and_eq_true] at h
  unfold fin3
  rw [fin_mul h.1.1, fin_mul h.1.2, fin_mul h.2]; rfl
def unit3 (v : V3) : V3 := scale3 v (fop .quo .f32 1065353216 (long3 v))
theorem unit_fin {v : V3} (h : fin3 (unit3 v) = true) : fin3 v = true := fin_scale h
def dirI (ws : List Wr) (p : V3) : V3 := unit3 (fieldI ws p)
def dirOk (ws : List Wr) (p : V3) : Bool := fin3 p && fin3 (dirI ws p)
def dirV (ws : List Wr) (p : V3) : V3 := if dirOk ws p then dirI ws p else z3
def midI (ws : List Wr) (p : V3) (st : Nat) : V3 := add3 p (scale3 (dirI ws p) (fop .mul .f32 1056964608 st))
def endI (ws : List Wr) (p : V3) (st : Nat) : V3 := add3 p (scale3 (dirI ws (midI ws p st)) st)
def stepOk (ws : List Wr) (p : V3) (st : Nat) : Bool := dirOk ws p && dirOk ws (midI ws p st) && fin3 (endI ws p st)
def stepV (ws : List Wr) (p : V3) (st : Nat) : V3 := if stepOk ws p st then endI ws p st else z3
section
variable {ws : List Wr} {p m : V3} {st : Nat}
theorem can_stepV : Can3 (stepV ws p st) := by unfold stepV; split; exact can_add3 _ _; exact can_z3
theorem dir_no (h : (fin3 p && fin3 (fieldI ws p)) = false) : Value.tuple #[vv z3, .bool false] = .tuple #[vv (dirV ws p), .bool (dirOk ws p)] := by
  have h1 : dirOk ws p = false := by
    unfold dirOk
    cases hp : fin3 p
    · rfl
    · rw [hp, Bool.true_and] at h
      cases hd : fin3 (dirI ws p)
      · rfl
      · rw [unit_fin hd] at h; cases h
  unfold dirV; rw [h1]; rfl
theorem dir_yes (h : (fin3 p && fin3 (fieldI ws p)) = true) : Value.tuple #[vv (ifV (unit3 (fieldI ws p))), .bool (fin3 (unit3 (fieldI ws p)))] = .tuple #[vv (dirV ws p), .bool (dirOk ws p)] := by
  rw [Bool.and_eq_true] at h
  have h1 : dirOk ws p = fin3 (unit3 (fieldI ws p)) := by unfold dirOk; rw [h.1, Bool.true_and]; rfl
  unfold dirV; rw [h1]; unfold ifV dirI; rfl
theorem step_no (h : stepOk ws p st = false) : Value.tuple #[vv z3, .bool false] = .tuple #[vv (stepV ws p st), .bool (stepOk ws p st)] := by unfold stepV; rw [h]; rfl
theorem step_i1 (h : dirOk ws p = false) : Value.tuple #[vv z3, .bool false] = .tuple #[vv (stepV ws p st), .bool (stepOk ws p st)] := step_no (by unfold stepOk; rw [h]; rfl)
theorem dirV_yes (h : dirOk ws p = true) : dirV ws p = dirI ws p := by unfold dirV; rw [h]; rfl
theorem mid_i (h : dirOk ws p = true) : add3 p (scale3 (dirV ws p) (fop .mul .f32 1056964608 st)) = midI ws p st := by rw [dirV_yes h]; rfl
theorem step_i2 (h : dirOk ws p = true) (h2 : dirOk ws (add3 p (scale3 (dirV ws p) (fop .mul .f32 1056964608 st))) = false) : Value.tuple #[vv z3, .bool false] = .tuple #[vv (stepV ws p st), .bool (stepOk ws p st)] := by
  rw [mid_i h] at h2
  exact step_no (by unfold stepOk; rw [h2, Bool.and_false]; rfl)
theorem step_yes (h : dirOk ws p = true) (h2 : dirOk ws (midI ws p st) = true) : Value.tuple #[vv (ifV (endI ws p st)), .bool (fin3 (endI ws p st))] = .tuple #[vv (stepV ws p st), .bool (stepOk ws p st)] := by
  have h1 : stepOk ws p st = fin3 (endI ws p st) := by unfold stepOk; rw [h, h2]; rfl
  unfold stepV; rw [h1]; unfold ifV; rfl
theorem step_i3 (h : dirOk ws p = true) (h2 : dirOk ws (add3 p (scale3 (dirV ws p) (fop .mul .f32 1056964608 st))) = true) :
    Value.tuple #[vv (ifV (add3 p (scale3 (dirV ws (add3 p (scale3 (dirV ws p) (fop .mul .f32 1056964608 st)))) st))), .bool (fin3 (add3 p (scale3 (dirV ws (add3 p (scale3 (dirV ws p) (fop .mul .f32 1056964608 st)))) st)))] = .tuple #[vv (stepV ws p st), .bool (stepOk ws p st)] := by
  rw [dirV_yes h2, mid_i h]
  rw [mid_i h] at h2
  exact step_yes h h2
theorem step_fin (h : stepOk ws p st = true) : fin3 (stepV ws p st) = true := by
  unfold stepV; rw [h]
  unfold stepOk at h
  rw [Bool.and_eq_true] at h
  exact h.2
end
def slOk (ws : List Wr) (p : V3) (st : Nat) : Bool := wiresOk ws && fin3 p && fin st && stepOk ws p st
def slV (ws : List Wr) (p : V3) (st : Nat) : V3 := if slOk ws p st then stepV ws p st else z3
section
variable {ws : List Wr} {p m : V3} {st : Nat}
theorem sl_no (h : slOk ws p st = false) : Value.tuple #[vv z3, .bool false] = .tuple #[vv (slV ws p st), .bool (slOk ws p st)] := by unfold slV; rw [h]; rfl
theorem sl_no1 (h : wiresOk ws = false) : Value.tuple #[vv z3, .bool false] = .tuple #[vv (slV ws p st), .bool (slOk ws p st)] := sl_no (by unfold slOk; rw [h]; rfl)
theorem sl_no2 (h : fin3 p = false) : Value.tuple #[vv z3, .bool false] = .tuple #[vv (slV ws p st), .bool (slOk ws p st)] := sl_no (by unfold slOk; rw [h, Bool.and_false]; rfl)
theorem sl_no3 (h : fin st = false) : Value.tuple #[vv z3, .bool false] = .tuple #[vv (slV ws p st), .bool (slOk ws p st)] := sl_no (by unfold slOk; rw [h, Bool.and_false]; rfl)
theorem sl_yes (h : wiresOk ws = true) (h2 : fin3 p = true) (h3 : fin st = true) : Value.tuple #[vv (stepV ws p st), .bool (stepOk ws p st)] = .tuple #[vv (slV ws p st), .bool (slOk ws p st)] := by
  have h1 : slOk ws p st = stepOk ws p st := by unfold slOk; rw [h, h2, h3]; rfl
  unfold slV; rw [h1]
  cases hs : stepOk ws p st
  · unfold stepV; rw [hs]; rfl
  · rfl
end
end Go.Proofs.Ytfkblhlkeglilaa

namespace Go.Proofs.Ytfkblhlkeglilaa
open Go.RowKit
/-- The double x stands for a number below 2 ^ (t + 1). -/
def small (t : Int) (x : Nat) : Prop := ∃ s m e, FloatKind.f64.decode x = .number s m e ∧ e + (m.log2 : Int) ≤ t
theorem log2_lt' {m k : Nat} (h : m < 2 ^ k) (hk : 0 < k) : m.log2 < k := by
  rcases Nat.eq_zero_or_pos m with h0 | h0
  · subst h0; simpa using hk
  · exact (Nat.log2_lt (by omega)).2 h
theorem lt_log2 (m : Nat) : m < 2 ^ (m.log2 + 1) := Nat.lt_log2_self
theorem log2_mono {a b : Nat} (h : a ≤ b) : a.log2 ≤ b.log2 := by
  rcases Nat.eq_zero_or_pos a with h0 | h0
  · subst h0; simp
  · have := Nat.log2_self_le (n := a) (by omega)
    have h2 : 2 ^ a.log2 < 2 ^ (b.log2 + 1) := Nat.lt_of_le_of_lt this (Nat.lt_of_le_of_lt h (lt_log2 b))
    have := (Nat.pow_lt_pow_iff_right (a := 2) (by decide)).1 h2
    omega
/-- A number by the scale. -/
def qf (s x : Nat) : Nat := fround (fop .mul .f64 4674736138332667904 (fop .quo .f64 (up x) (up s)))
end Go.Proofs.Ytfkblhlkeglilaa

namespace Go.Proofs.Ytfkblhlkeglilaa
open Go.RowKit
/-- The address of a part. -/
def slA (a : Option Addr) (l mm z : Nat) : Option Addr := if mm = l then a else a.map (·.add (l * z))
theorem Cl.part {w : World} {a : Option Addr} {us : List Value} (h : Cl w a us) {l hh mm z : Nat} (h1 : hh ≤ mm) : Cl w (slA a l mm z) ((us.drop (l * z)).take ((hh - l) * z)) := by
  by_cases hm : mm = l
  · have : hh - l = 0 := by omega
    rw [this, Nat.zero_mul, List.take_zero]
    exact .inl rfl
  · unfold slA
    rw [if_neg hm]
    rcases h with h | ⟨p, rfl, hsp, h⟩
    · subst h; simp; exact .inl rfl
    · refine .inr ⟨p.add (l * z), rfl, ?_, fun i u hu => ?_⟩
      · rw [adr_add hsp]; rfl
      · rw [List.getElem?_take] at hu
        split at hu
        · rw [List.getElem?_drop] at hu
          obtain ⟨v, hv, he⟩ := h _ _ hu
          refine ⟨v, ?_, he⟩
          rw [adr_add hsp]
          simp only [adr]
          rw [show p.off + l * z + i = p.off + (l * z + i) by omega]
          exact hv
        · cases hu
theorem Sees.part {w0 : World} {O : List Ent} {a : Option Addr} {us : List Value} (h : Sees w0 O a us) {l hh mm z : Nat} (h1 : hh ≤ mm) : Sees w0 O (slA a l mm z) ((us.drop (l * z)).take ((hh - l) * z)) := fun w hw => (h w hw).part h1
section
variable {P : Program} {n : Nat} {w0 : World} {O : List Ent} {E : Env} {o : Oper}
/-- A row of cells is written into a block that is known. -/
theorem Hp.write {A B : List Ent} {a : Option Addr} {us : List Value} {cap : Nat} {ty : TypeId} {w : World} (hw : Hp w0 (A ++ ⟨a, us, cap, ty⟩ :: B) w) (vs : List Value) (k : Nat) (hs : vs.all scal = true) (hk : k + vs.length ≤ us.length) (hne : vs ≠ []) :
    ∃ w', (storeCells (adr a k) vs).run P w = .ok () w' ∧ Hp w0 (A ++ ⟨a, setAt us k (vs.map cn), cap, ty⟩ :: B) w' := by
  have hent := hw.ents ⟨a, us, cap, ty⟩ (by simp)
  have hl : 0 < vs.length := List.length_pos_iff.2 hne
  have hcap : cap ≠ 0 := by
    rcases hent with h | ⟨_, _, _, _, _, _, h5, _⟩
    · have := h.1; simp only at this; subst this; simp only [List.length_nil] at hk; omega
    · simp only at h5; omega
  obtain ⟨b0, hb0, hge⟩ := hent.addr hcap
  obtain ⟨b, w', r1, r2, r3, r4⟩ := run_storeCells_ent (P := P) vs us 0 k w a cap ty hs (by omega) hent
  have hbb : b = b0 := by
    have := r2 hne
    simp only at hb0
    rw [this] at hb0
    simpa using hb0
  subst hbb
  refine ⟨w', r1, ?_⟩
  simp only [Nat.add_zero] at r4
  exact Hp.turn hw (fun _ => ⟨_, hb0, rfl⟩) hge (fun h => absurd h hcap) r3 r4 (fun _ p hp => .inl (by simp only at hp hb0; rw [hb0] at hp; cases hp; rfl))
theorem Sees.take {a : Option Addr} {us : List Value} (q : Nat) (h : Sees w0 O a us) : Sees w0 O a (us.take q) := fun w hw => (h w hw).sub _ (fun i u hu => by
  rw [List.getElem?_take] at hu
  split at hu
  · exact hu
  · cases hu)
theorem Sees.drop {b : Nat} {us : List Value} (q : Nat) (h : Sees w0 O (some ⟨b, 0, none⟩) us) : Sees w0 O (some (adr (some ⟨b, 0, none⟩) q)) (us.drop q) := fun w hw => by
  rcases h w hw with h | ⟨p, hp, hsp, h⟩
  · subst h; simp; exact .inl rfl
  · cases hp
    refine .inr ⟨_, rfl, rfl, fun i u hu => ?_⟩
    rw [List.getElem?_drop] at hu
    obtain ⟨v, hv, he⟩ := h _ _ hu
    refine ⟨v, ?_, he⟩
    simp only [adr, Nat.zero_add] at hv ⊢
    exact hv
end
end Go.Proofs.Ytfkblhlkeglilaa

namespace Go.Proofs.Ytfkblhlkeglilaa
open Go.RowKit
/-- bytes in memory; a text of bytes -/
def bl (bs : List Int) : List Value := bs.map (Value.int .u8)
def stb (bs : List Int) : ByteArray := ⟨(bs.map fun n => UInt8.ofNat n.toNat).toArray⟩
theorem bl_length (bs : List Int) : (bl bs).length = bs.length := by simp [bl]
/-- two texts compared -/
def scmp (op : BinOp) (a b : ByteArray) : Bool := match op with | .eql => a.toList == b.toList | _ => !(a.toList == b.toList)
@[simp] theorem scmp_ne_self (a : ByteArray) : scmp .neq a a = false := by simp [scmp]
@[simp] theorem scmp_eq_self (a : ByteArray) : scmp .eql a a = true := by simp [scmp]
section
variable {P : Program} {w0 : World} {O : List Ent} {E : Env} {o : Oper}
end
end Go.Proofs.Ytfkblhlkeglilaa

namespace Go.Proofs.Ytfkblhlkeglilaa
open Go.RowKit
def szOk (wi hi de : Int) : Bool := decide (1 ≤ wi ∧ wi ≤ 216) && decide (1 ≤ hi ∧ hi ≤ 216) && decide (1 ≤ de ∧ de ≤ 216) && decide (wi * hi * de ≤ 216)
def meshOk (f : V3) (st : Nat) (wi hi de : Int) (n : Nat) : Bool := fin3 f && above st && szOk wi hi de && decide ((n : Int) = wi * hi * de)
section
variable {wi hi de : Int} {f : V3} {st n : Nat}
end
def nd (W H x y z : Nat) : Nat := x + W * (y + H * z)
section
variable {W H D x y z j : Nat}
end
section
variable {P : Program} {n : Nat} {w0 : World} {O : List Ent} {E : Env} {o : Oper}
theorem yr_addN {t ty : TypeId} {x y : Operand} {a b : Int} (r : Nat) (ho : o.op = .binOp .add t x y ty) (hx : E.opd x = some (.int .i64 a)) (hy : E.opd y = some (.int .i64 b)) (h : a + b = (r : Int)) (hb : r ≤ 9223372036854775807) : YR P E o (.int .i64 (r : Int)) := by
  rw [← h]
  exact yr_int ho hx hy (.inl ⟨rfl, wrap_in (by omega)⟩)
theorem yr_subN {t ty : TypeId} {x y : Operand} {a b : Int} (r : Nat) (ho : o.op = .binOp .sub t x y ty) (hx : E.opd x = some (.int .i64 a)) (hy : E.opd y = some (.int .i64 b)) (h : a - b = (r : Int)) (hb : r ≤ 9223372036854775807) : YR P E o (.int .i64 (r : Int)) := by
  rw [← h]
  exact yr_int ho hx hy (.inr (.inl ⟨rfl, wrap_in (by omega)⟩))
theorem Pick.e4 {O1 O2 O3 F : List Ent} {e1 e2 e3 e4 : Ent} (h1 : Rem O [e1] O1) (h2 : Rem O1 [e2] O2) (h3 : Rem O2 [e3] O3) (h4 : Rem O3 [e4] F) : Pick O [e1, e2, e3, e4] F := Pick.take h1 (Pick.take h2 (Pick.take h3 (Pick.take h4 .nil)))
end
section
variable {vs : List V3} {W H D tw x y z j k a b : Nat}
end
section
variable {f : V3} {st : Nat} {wi hi de : Int} {vs : List V3}
end
end Go.Proofs.Ytfkblhlkeglilaa

namespace Go.Proofs.Ytfkblhlkeglilaa
open Go.RowKit
theorem fin_rng {x : Nat} (h : fin x = true) : rng Ieee.single x < Ieee.single.infRung := by
  rcases Nat.lt_or_ge (rng Ieee.single x) Ieee.single.infRung with hl | hl
  · exact hl
  · exfalso
    have hq : fop .sub .f32 x x = qn .f32 := by
      cases hn : fnan .f32 x
      · have hi : Ieee.single.read x = .infinity (sgn Ieee.single x) := read_inf .f32 (Nat.le_antisymm (rng_le hn) hl)
        unfold fop floatBits Ieee.Format.sub
        simp only [show FloatKind.f32.format = Ieee.single from rfl, hi]
        generalize sgn Ieee.single x = s
        cases s <;> decide
      · simp [fop, floatBits_nan_left hn]
    unfold fin at h
    rw [hq] at h
    revert h
    decide
theorem fin_nan {x : Nat} (h : fin x = true) : fnan .f32 x = false := by
  rw [fnan_rng]
  have := fin_rng h
  exact decide_eq_false (by show ¬ Ieee.single.infRung < rng Ieee.single x; omega)
/-- The greater of what it was and the number without its sign. -/
def scN (s x : Nat) : Nat := if fcmp .gtr .f32 (fabs .f32 x) s then fabs .f32 x else s
section
variable {P : Program} {E : Env} {o : Oper}
end
end Go.Proofs.Ytfkblhlkeglilaa

namespace Go.Proofs.Ytfkblhlkeglilaa
open Go.RowKit
def w8 (i : Int) : Int := IntKind.u8.wrap i
def four (x : Nat) : List Int := [w8 (x : Int), w8 ((x / 256 : Nat) : Int), w8 ((x / 65536 : Nat) : Int), w8 ((x / 16777216 : Nat) : Int)]
def num (vs : List V3) (k : Nat) : Nat := if k % 3 = 0 then (vs.getD (k / 3) z3).1 else if k % 3 = 1 then (vs.getD (k / 3) z3).2.1 else (vs.getD (k / 3) z3).2.2
def scU (vs : List V3) : Nat → Nat
  | 0 => 0
  | k + 1 => scN (scU vs k) (num vs k)
def allF (vs : List V3) : Nat → Bool
  | 0 => true
  | k + 1 => allF vs k && fin (num vs k)
def qI (s x : Nat) : Int := (floatToIntVal .f64 (qf s x) .i64).getD 0
def qz (s x : Nat) : Int := if fcmp .gtr .f32 s 0 then qI s x else 0
def bodyU (vs : List V3) (s : Nat) : Nat → List Int
  | 0 => []
  | k + 1 => bodyU vs s k ++ [w8 (qz s (num vs k)), w8 ((qz s (num vs k)).fdiv 256)]
def topL (f : V3) (st : Nat) (wi hi de : Int) (s : Nat) : List Int := [77, 83, 72, 49] ++ [w8 wi, w8 hi, w8 de] ++ four f.1 ++ four f.2.1 ++ four f.2.2 ++ four st ++ four s
def pkL (f : V3) (st : Nat) (wi hi de : Int) (vs : List V3) : List Int := topL f st wi hi de (scU vs (vs.length * 3)) ++ bodyU vs (scU vs (vs.length * 3)) (vs.length * 3)
section
variable {vs : List V3} {k j s : Nat}
end
section
variable {f : V3} {st : Nat} {wi hi de : Int} {vs : List V3}
end
section
variable {vs : List V3} {k i j p s : Nat}
end
theorem Pick.p3 {O1 O2 O F : List Ent} {e1 e2 e3 : Ent} (h1 : Rem O [e1] O1) (h2 : Rem O1 [e2] O2) (h3 : Rem O2 [e3] F) : Pick O [e1, e2, e3] F := Pick.take h1 (Pick.take h2 (Pick.take h3 .nil))
end Go.Proofs.Ytfkblhlkeglilaa

namespace Go.Proofs.Ytfkblhlkeglilaa
open Go.RowKit
theorem cut_even_le (s : Bool) {n d q : Nat} (h : n ≤ q * 2 ^ d) : Ieee.Toward.even.cut s n d ≤ q := by
  unfold Ieee.Toward.cut
  simp only [Nat.shiftLeft_eq, Nat.one_mul]
  by_cases hd : d ≤ n.log2 + 2
  · rw [Nat.min_eq_left hd]
    have hp := pow_pos' d
    have hlow : n / 2 ^ d ≤ q := Nat.div_le_of_le_mul (by rw [Nat.mul_comm]; exact h)
    rcases Nat.lt_or_eq_of_le hlow with hlt | heq
    · have : (decide (2 ^ d < 2 * (n % 2 ^ d)) || (2 ^ d == 2 * (n % 2 ^ d) && n / 2 ^ d % 2 == 1)).toNat ≤ 1 := Bool.toNat_le _
      omega
    · have hr : n % 2 ^ d = 0 := by
        have := Nat.div_add_mod n (2 ^ d)
        rw [heq, Nat.mul_comm] at this
        omega
      rw [heq, hr]
      have h1 : decide (2 ^ d < 2 * 0) = false := decide_eq_false (by omega)
      have h2 : (2 ^ d == 2 * 0) = false := by rw [beq_eq_false_iff_ne]; omega
      rw [h1, h2]
      simp
  · rw [Nat.min_eq_right (by omega)]
    have hlt : n < 2 ^ (n.log2 + 2) := Nat.lt_of_lt_of_le (lt_log2 n) (Nat.pow_le_pow_right (by decide) (by omega))
    have h2 : 2 * n < 2 ^ (n.log2 + 2) := by
      have := lt_log2 n
      rw [Nat.pow_succ]
      omega
    rw [Nat.div_eq_of_lt hlt, Nat.mod_eq_of_lt hlt]
    have h3 : decide (2 ^ (n.log2 + 2) < 2 * n) = false := decide_eq_false (by omega)
    have h4 : (2 ^ (n.log2 + 2) == 2 * n) = false := by rw [beq_eq_false_iff_ne]; omega
    rw [h3, h4]
    simp
/-- What is not greater than the number of a word is written as no greater word. -/
theorem nearest_le (f : Ieee.Format) (s : Bool) {m r a b : Nat} {e : Int} (he : e + a = f.leastPlace + b) (h : m * 2 ^ b ≤ units f r * 2 ^ a) : ∃ r', f.nearest s m e = f.word s r' ∧ r' ≤ r := by
  unfold Ieee.Format.nearest
  by_cases hm : m = 0
  · rw [if_pos hm]; exact ⟨0, rfl, Nat.zero_le _⟩
  rw [if_neg hm]
  refine ⟨_, rfl, Nat.le_trans (Nat.min_le_left _ _) ?_⟩
  have hmb : 0 < m * 2 ^ b := Nat.mul_pos (by omega) (pow_pos' b)
  have hu : units f r ≠ 0 := by
    intro h0
    rw [h0, Nat.zero_mul] at h
    omega
  have hl : m.log2 + b ≤ (units f r).log2 + a := by
    have := log2_mono h
    rwa [log2_mul_pow hm b, log2_mul_pow hu a] at this
  have hb : 0 < f.binade := pow_pos' _
  have hbe : f.binade = 2 ^ f.fractionBits := rfl
  have key : ∀ (q t : Nat), m * 2 ^ b ≤ q * 2 ^ t * 2 ^ a → Ieee.Toward.even.cut s (m <<< (e - (f.leastPlace + t)).toNat) ((f.leastPlace + t) - e).toNat ≤ q := by
    intro q t hqt
    rw [Nat.mul_assoc, ← Nat.pow_add] at hqt
    rcases Nat.le_total (t + a) b with hle | hle
    · have e1 : (e - (f.leastPlace + t)).toNat = b - (t + a) := by omega
      have e2 : ((f.leastPlace + t) - e).toNat = 0 := by omega
      rw [e1, e2, cut_zero, shl_eq]
      have : b = (b - (t + a)) + (t + a) := by omega
      rw [this, Nat.pow_add, ← Nat.mul_assoc] at hqt
      exact Nat.le_of_mul_le_mul_right hqt (pow_pos' _)
    · have e1 : (e - (f.leastPlace + t)).toNat = 0 := by omega
      have e2 : ((f.leastPlace + t) - e).toNat = t + a - b := by omega
      have : t + a = (t + a - b) + b := by omega
      rw [this, Nat.pow_add, ← Nat.mul_assoc] at hqt
      have hm' := Nat.le_of_mul_le_mul_right hqt (pow_pos' b)
      rw [e1, e2, shl_eq, Nat.pow_zero, Nat.mul_one]
      exact cut_even_le s hm'
  by_cases hrb : r < f.binade
  · have hur : units f r = r := by unfold units; rw [if_pos hrb]
    have hr0 : r ≠ 0 := by rw [← hur]; exact hu
    have hlg : (units f r).log2 < f.fractionBits := by
      rw [hur]
      exact (Nat.log2_lt hr0).2 hrb
    have hlast : max (e + (m.log2 : Int) - (f.fractionBits : Int)) f.leastPlace = f.leastPlace + ((0 : Nat) : Int) := by omega
    simp only [hlast]
    have hk := key r 0 (by rw [Nat.pow_zero, Nat.mul_one, ← hur]; exact h)
    have e0 : (f.leastPlace + ((0 : Nat) : Int) - f.leastPlace).toNat = 0 := by omega
    rw [e0, Nat.zero_mul, Nat.zero_add]
    exact hk
  · have hq1 : 1 ≤ r / f.binade := (Nat.le_div_iff_mul_le hb).2 (by omega)
    have hmod := Nat.mod_lt r hb
    have hur : units f r = (f.binade + r % f.binade) * 2 ^ (r / f.binade - 1) := by unfold units; rw [if_neg hrb]
    have hqne : f.binade + r % f.binade ≠ 0 := by omega
    have hlg : (units f r).log2 = f.fractionBits + (r / f.binade - 1) := by
      rw [hur, log2_mul_pow hqne]
      congr 1
      rw [Nat.log2_eq_iff hqne]
      rw [Nat.pow_succ, ← hbe]
      omega
    obtain ⟨t, ht⟩ : ∃ t : Nat, max (e + (m.log2 : Int) - (f.fractionBits : Int)) f.leastPlace = f.leastPlace + (t : Int) :=
      ⟨(max (e + (m.log2 : Int) - (f.fractionBits : Int)) f.leastPlace - f.leastPlace).toNat, by omega⟩
    have htT : t ≤ r / f.binade - 1 := by omega
    have hkl := kept_le s (m := m) (f := f.fractionBits) (place := e) (last := max (e + (m.log2 : Int) - (f.fractionBits : Int)) f.leastPlace) (Int.le_max_left _ _)
    simp only [ht] at hkl ⊢
    have e1 : (f.leastPlace + (t : Int) - f.leastPlace).toNat = t := by omega
    rw [e1]
    have e2 := Nat.div_add_mod r f.binade
    rw [Nat.mul_comm] at e2
    rcases Nat.lt_or_eq_of_le htT with hlt | heq
    · have h4 : 2 ^ (f.fractionBits + 1) = 2 * f.binade := by rw [Nat.pow_succ, Nat.mul_comm, hbe]
      rw [h4] at hkl
      have h5 : (t + 2) * f.binade ≤ r / f.binade * f.binade := Nat.mul_le_mul_right _ (by omega)
      rw [Nat.add_mul] at h5
      omega
    · have hk := key (f.binade + r % f.binade) t (by rw [heq, ← hur]; exact h)
      have h5 : (t + 1) * f.binade = r / f.binade * f.binade := by congr 1; omega
      rw [Nat.add_mul, Nat.one_mul] at h5
      omega
end Go.Proofs.Ytfkblhlkeglilaa

namespace Go.Proofs.Ytfkblhlkeglilaa
open Go.RowKit
def r1 : Nat := 4607182418800017408
def u1 : Nat := units Ieee.double r1
theorem units_mono (f : Ieee.Format) {r t : Nat} (h : r ≤ t) : units f r ≤ units f t := by
  have hb : 0 < f.binade := pow_pos' _
  rcases Nat.lt_or_ge t f.binade with ht | ht
  · have hr : r < f.binade := by omega
    unfold units
    rw [if_pos hr, if_pos ht]; exact h
  · obtain ⟨t1, t2⟩ := units_bounds f ht
    rcases Nat.lt_or_ge r f.binade with hr | hr
    · have hur : units f r = r := by unfold units; rw [if_pos hr]
      rw [hur]
      exact Nat.le_trans (Nat.le_of_lt hr) (Nat.le_trans (Nat.le_mul_of_pos_right _ (pow_pos' _)) t1)
    · obtain ⟨s1, s2⟩ := units_bounds f hr
      have hd : r / f.binade ≤ t / f.binade := Nat.div_le_div_right h
      rcases Nat.lt_or_eq_of_le hd with hlt | heq
      · have h3 : f.binade * 2 ^ (r / f.binade) ≤ f.binade * 2 ^ (t / f.binade - 1) := Nat.mul_le_mul_left _ (Nat.pow_le_pow_right (by decide) (by omega))
        omega
      · unfold units
        rw [if_neg (by omega), if_neg (by omega), heq]
        refine Nat.mul_le_mul_right _ ?_
        have e1 := Nat.div_add_mod r f.binade
        have e2 := Nat.div_add_mod t f.binade
        rw [heq] at e1
        omega
end Go.Proofs.Ytfkblhlkeglilaa

namespace Go.Proofs.Ytfkblhlkeglilaa
open Go.RowKit
def rw5 : Nat := 4674736138332667904
end Go.Proofs.Ytfkblhlkeglilaa

namespace Go.Proofs.Ytfkblhlkeglilaa
open Go.RowKit
section
variable {P : Program} {n : Nat} {w0 : World} {O : List Ent} {E : Env} {o : Oper}
theorem extN {args : Array Operand} {ts : Array TypeId} {f : FuncId} {us : List Value} {X : Type} {u : X → Value} {e : Array Value → Sem Value} (ho : o.op = .call ⟨.value (.func f), args, ts⟩) (hk : ExtF P f e) (hx : Opds E args.toList us)
    (h : ∀ (vs : Array Value) (w : World), vs.toList.map cn = us → ∃ x v w', (e vs).run P w = .ok v w' ∧ cn v = u x ∧ Below w.heap.size w w') : YN P w0 O E o u (fun _ => []) := by
  intro ρ w hE hw
  obtain ⟨fn, h1, h2, h3, h4, h5⟩ := hk
  have h2' : ¬ fn.name = "runtime.NumGoroutine" := by simpa using h2
  obtain ⟨x, v, w', g1, g2, g3⟩ := h (args.map ρ ++ #[]) w (args_map' ho hx hE)
  have hc : cn (ρ (.func f)) = .func (.func f) #[] #[] := hE.get (x := .func f) (by simp [ho, Op.operands, Call.operands]) rfl
  have hc' := cn_func hc
  have hr : (execOp ρ o).run P w = .ok (.value v) w' := by
    simp only [Array.append_empty] at g1
    simp [execOp, ho, resolve, hc', Deferred.ofValue, invoke, callFunc, program, Sem.run, h1, h2', h3, h4, h5, g1]
  rw [hr]
  exact ⟨x, g2, g3, (fun _ hf => by cases hf), List.Pairwise.nil⟩
theorem ext_bitsN {vs : Array Value} {w : World} {x : Nat} (h : vs.toList.map cn = [.float .f64 x]) : ∃ (b : {b : Nat // cb .f64 b = x}) (v : Value) (w' : World), (Extern.MathFloatBits.float64bits vs).run P w = .ok v w' ∧ cn v = .int .u64 (b.1 : Int) ∧ Below w.heap.size w w' := by
  obtain ⟨b, rfl, hb⟩ := one_arg h
  exact ⟨⟨b, hb⟩, .int .u64 b, w, rfl, rfl, Below.refl _ _⟩
theorem int_arg {vs : Array Value} {k : IntKind} {x : Int} (h : vs.toList.map cn = [.int k x]) : vs = #[.int k x] := by
  have hl : vs.toList.length = 1 := by have := congrArg List.length h; simpa using this
  obtain ⟨l⟩ := vs
  match l, hl with
  | [v], _ =>
    simp only [List.map_cons, List.map_nil, List.cons.injEq, and_true] at h
    rw [cn_int h]
theorem ext_from64 (vs : Array Value) (w : World) {x : Nat} (h : vs.toList.map cn = [.int .u64 (x : Int)]) : ∃ v w', (Extern.MathFloatBits.float64frombits vs).run P w = .ok v w' ∧ cn v = .float .f64 (cb .f64 x) ∧ Below w.heap.size w w' := by
  rw [int_arg h]
  exact ⟨.float .f64 x, w, rfl, rfl, Below.refl _ _⟩
theorem intBits_63 (x : Nat) : Op.intBits .andNot .u64 (x : Int) 9223372036854775808 = (pure (.int .u64 ((x % 9223372036854775808 : Nat) : Int)) : Sem Value) := by
  have h1 : BitVec.ofInt IntKind.u64.bits (x : Int) = BitVec.ofNat 64 x := by
    show BitVec.ofInt 64 (x : Int) = BitVec.ofNat 64 x
    exact BitVec.ofInt_natCast 64 x
  have h2 : ~~~ BitVec.ofInt IntKind.u64.bits 9223372036854775808 = BitVec.ofNat 64 (2 ^ 63 - 1) := by
    show ~~~ BitVec.ofInt 64 9223372036854775808 = BitVec.ofNat 64 (2 ^ 63 - 1)
    decide
  unfold Op.intBits
  simp only [h1, h2]
  congr 2
  have h3 : (BitVec.ofNat 64 x &&& BitVec.ofNat 64 (2 ^ 63 - 1)).toNat = x % 2 ^ 63 := by
    rw [BitVec.toNat_and, BitVec.toNat_ofNat, BitVec.toNat_ofNat]
    have : (2 ^ 63 - 1) % 2 ^ 64 = 2 ^ 63 - 1 := by decide
    rw [this, Nat.and_two_pow_sub_one_eq_mod]
    omega
  change IntKind.u64.wrap ((BitVec.ofNat 64 x &&& BitVec.ofNat 64 (2 ^ 63 - 1)).toNat : Int) = _
  rw [h3]
  have : x % 2 ^ 63 < 2 ^ 63 := Nat.mod_lt _ (by decide)
  have h4 : IntKind.u64.wrap ((x % 2 ^ 63 : Nat) : Int) = ((x % 2 ^ 63 : Nat) : Int) := IntWalk.u64_in _ (by omega)
  rw [h4]
theorem yr_andNot63 {t ty : TypeId} {x y : Operand} {a : Nat} (ho : o.op = .binOp .andNot t x y ty) (hx : E.opd x = some (.int .u64 (a : Int))) (hy : E.opd y = some (.int .u64 9223372036854775808)) : YR P E o (.int .u64 ((a % 9223372036854775808 : Nat) : Int)) := yr_of fun ρ w hE => by
  have h1 := cn_int (hE.get (x := x) (by simp [ho, Op.operands]) hx)
  have h2 := cn_int (hE.get (x := y) (by simp [ho, Op.operands]) hy)
  exact ⟨.int .u64 ((a % 9223372036854775808 : Nat) : Int), by simp [execOp, ho, h1, h2, eqGuard, binOp, intBits_63], rfl⟩
end
end Go.Proofs.Ytfkblhlkeglilaa

namespace Go.Proofs.Ytfkblhlkeglilaa
open Go.RowKit
/-- the byte at a place -/
def sb (s : ByteArray) (i : Nat) : Nat := ((s.data[i]?).getD 0).toNat
section
variable {P : Program} {w0 : World} {O : List Ent} {E : Env} {o : Oper}
end
def rd2 (s : ByteArray) (p : Nat) : Nat := sb s p + sb s (p + 1) * 256
def rd4 (s : ByteArray) (p : Nat) : Nat := sb s p + sb s (p + 1) * 256 + sb s (p + 2) * 65536 + sb s (p + 3) * 16777216
end Go.Proofs.Ytfkblhlkeglilaa

namespace Go.Proofs.Ytfkblhlkeglilaa
open Go.RowKit
/-- A number that is unpacked, before it is narrowed. -/
def unX (s : Nat) (q : Int) : Nat := fop .mul .f64 (up s) (fop .quo .f64 (FloatKind.f64.nearest q) rw5)
end Go.Proofs.Ytfkblhlkeglilaa

namespace Go.Proofs.Ytfkblhlkeglilaa
open Go.RowKit
section
variable {f : V3} {st : Nat} {wi hi de : Int} {vs : List V3} {k : Nat}
end
/-- sixteen bits as a number with a sign -/
def q16 (n : Nat) : Int := if n ≤ 32767 then (n : Int) else (n : Int) - 65536
end Go.Proofs.Ytfkblhlkeglilaa

namespace Go.Proofs.Ytfkblhlkeglilaa
open Go.RowKit
/-- The k-th number of a text. -/
def unV (s : ByteArray) (k : Nat) : Nat := fconv .f64 .f32 (unX (rd4 s 23) (q16 (rd2 s (27 + k * 2))))
def unL (s : ByteArray) (n : Nat) : List V3 := (List.range n).map fun i => (unV s (i * 3), unV s (i * 3 + 1), unV s (i * 3 + 2))
section
variable {f : V3} {st : Nat} {wi hi de : Int} {vs : List V3} {s : ByteArray}
/-- the number, a zero without its sign -/
def az (v : Nat) : Nat := if rng Ieee.single v = 0 then 0 else v
end
section
variable {f : V3} {st : Nat} {wi hi de : Int} {vs : List V3} {s : ByteArray} {n : Nat}
end
end Go.Proofs.Ytfkblhlkeglilaa

namespace Go.Proofs.Ytfkblhlkeglilaa
open Go.RowKit
def mshText : ByteArray := ⟨#[77, 83, 72, 49]⟩
def unN (s : ByteArray) : Nat := sb s 4 * sb s 5 * sb s 6
def unF (s : ByteArray) : V3 := (cb .f32 (rd4 s 7), cb .f32 (rd4 s 11), cb .f32 (rd4 s 15))
def unSt (s : ByteArray) : Nat := cb .f32 (rd4 s 19)
def unPk (s : ByteArray) (vs : List V3) : ByteArray := stb (pkL (unF s) (unSt s) (sb s 4 : Int) (sb s 5 : Int) (sb s 6 : Int) vs)
def unMs (s : ByteArray) : Bool := meshOk (unF s) (unSt s) (sb s 4 : Int) (sb s 5 : Int) (sb s 6 : Int) (unN s)
def unPre (s : ByteArray) : Bool := decide (27 ≤ s.size) && scmp .eql (s.extract 0 4) mshText && decide (unN s ≤ 216) && decide (s.size = 27 + 6 * unN s) && unMs s
def unOk (s : ByteArray) : Bool := unPre s && allF (unL s (unN s)) (unN s * 3) && scmp .eql (unPk s (unL s (unN s))) s
section
variable {s : ByteArray} {i : Nat}
end
section
variable {s : ByteArray} {vs : List V3}
end
end Go.Proofs.Ytfkblhlkeglilaa

namespace Go.Proofs.Ytfkblhlkeglilaa
open Go.RowKit
section
variable {s : ByteArray} {j k i : Nat} {v w : V3} {vs : List V3}
end
section
variable {P : Program} {w0 : World} {O : List Ent} {E : Env} {o : Oper} {s : ByteArray}
end
theorem Pick.e6 {O O1 O2 O3 O4 O5 F : List Ent} {e1 e2 e3 e4 e5 e6 : Ent} (h1 : Rem O [e1] O1) (h2 : Rem O1 [e2] O2) (h3 : Rem O2 [e3] O3) (h4 : Rem O3 [e4] O4) (h5 : Rem O4 [e5] O5) (h6 : Rem O5 [e6] F) : Pick O [e1, e2, e3, e4, e5, e6] F := Pick.take h1 (Pick.take h2 (Pick.take h3 (Pick.take h4 (Pick.take h5 (Pick.take h6 .nil)))))
/-- A mesh that may be none. -/
structure MX where
  f : V3
  st : Nat
  wi : Int
  hi : Int
  de : Int
  ar : Option Addr
  cr : Nat
  vs : List V3
def MX.is (s : ByteArray) (x : MX) : Prop := unOk s = true → x.f = unF s ∧ x.st = unSt s ∧ x.wi = (sb s 4 : Int) ∧ x.hi = (sb s 5 : Int) ∧ x.de = (sb s 6 : Int) ∧ x.vs = unL s (unN s)
def MX.v (x : MX) : Value := .agg #[.float .f32 x.f.1, .float .f32 x.f.2.1, .float .f32 x.f.2.2, .float .f32 x.st, .int .i64 x.wi, .int .i64 x.hi, .int .i64 x.de, .slice x.ar x.vs.length x.cr]
def MX.none : MX := ⟨z3, 0, 0, 0, 0, Option.none, 0, []⟩
end Go.Proofs.Ytfkblhlkeglilaa

namespace Go.Proofs.Ytfkblhlkeglilaa
open Go.RowKit
/-- max of two floats -/
def fmx (k : FloatKind) (x y : Nat) : Nat := match k.format.order x y with
  | some .lt => y
  | some .gt => x
  | some .eq => if (k.decode x).neg then y else x
  | none => qn k
def gap64 (a b : Nat) : Nat := fmx .f64 (fop .sub .f64 a b) (fop .sub .f64 b a)
theorem order_isM {k : FloatKind} {x y : Nat} (hx : fnan k x = false) (hy : fnan k y = false) : ∃ o, k.format.order x y = some o := by
  have h1 := read_num hx
  have h2 := read_num hy
  unfold Ieee.Format.order
  cases hr : k.format.read x <;> cases hs : k.format.read y <;> simp_all [Ieee.Datum.order, Ieee.Datum.isNaN]
theorem fmx_or (k : FloatKind) {x y : Nat} (hx : fnan k x = false) (hy : fnan k y = false) : fmx k x y = x ∨ fmx k x y = y := by
  obtain ⟨o, h⟩ := order_isM hx hy
  unfold fmx
  rw [h]
  cases o
  · exact .inr rfl
  · dsimp only; split
    · exact .inr rfl
    · exact .inl rfl
  · exact .inl rfl
theorem fnan_fmx {k : FloatKind} {x y : Nat} (hx : fnan k x = false) (hy : fnan k y = false) : fnan k (fmx k x y) = false := by
  rcases fmx_or k hx hy with h | h <;> rw [h] <;> assumption
theorem max2_run {P : Program} {k : FloatKind} {x y : Nat} (hx : fnan k x = false) (hy : fnan k y = false) (w : World) : (Builtin.max2 (.float k x) (.float k y)).run P w = .ok (.float k (fmx k x y)) w := by
  obtain ⟨o, h⟩ := order_isM hx hy
  unfold Builtin.max2 fmx
  simp only [h]
  cases o <;> rfl
theorem maxs_run {P : Program} {k : FloatKind} : ∀ (ys : List Nat) {x : Nat}, fnan k x = false → (∀ y ∈ ys, fnan k y = false) → ∀ w : World, ((ys.map (Value.float k)).foldlM Builtin.max2 (.float k x)).run P w = .ok (.float k (ys.foldl (fmx k) x)) w ∧ fnan k (ys.foldl (fmx k) x) = false
  | [], x, hx, _, w => ⟨rfl, hx⟩
  | y :: ys, x, hx, hy, w => by
    have h1 := max2_run (P := P) hx (hy y List.mem_cons_self) w
    have h2 := maxs_run (P := P) ys (fnan_fmx hx (hy y List.mem_cons_self)) (fun z hz => hy z (List.mem_cons_of_mem _ hz)) w
    refine ⟨?_, h2.2⟩
    simp only [List.map_cons, List.foldlM_cons, List.foldl_cons, Sem.run_bind, h1, Result.andThen_ok]
    exact h2.1
section
variable {P : Program} {E : Env} {o : Oper}
theorem raw_num {v : Value} {k : FloatKind} {x : Nat} (h : cn v = .float k x) (hx : fnan k x = false) : v = .float k x := by
  obtain ⟨b, h1, h2⟩ := cn_float h
  have : fnan k b = false := by rw [← fnan_cb, h2]; exact hx
  rw [cb_num this] at h2
  rw [h1, h2]
theorem raw_nums {k : FloatKind} : ∀ {vs : List Value} {xs : List Nat}, vs.map cn = xs.map (Value.float k) → (∀ x ∈ xs, fnan k x = false) → vs = xs.map (Value.float k)
  | [], [], _, _ => rfl
  | [], _ :: _, h, _ => by simp at h
  | _ :: _, [], h, _ => by simp at h
  | v :: vs, x :: xs, h, hx => by
    simp only [List.map_cons, List.cons.injEq] at h
    rw [List.map_cons, raw_num h.1 (hx x List.mem_cons_self), raw_nums h.2 fun y hy => hx y (List.mem_cons_of_mem _ hy)]
theorem yr_maxF {k : FloatKind} {args : Array Operand} {ts : Array TypeId} (x : Nat) (ys : List Nat) (ho : o.op = .call ⟨.builtin .max, args, ts⟩) (hx : Opds E args.toList ((x :: ys).map (Value.float k))) (hn : ∀ z ∈ x :: ys, fnan k z = false) : YR P E o (.float k (ys.foldl (fmx k) x)) := yr_of fun ρ w hE => by
  have hm := hx.map hE (fun x hx => by simp [ho, Op.operands, Call.operands]; simpa using hx)
  have hr := raw_nums hm hn
  obtain ⟨h1, h2⟩ := maxs_run (P := P) ys (hn x List.mem_cons_self) (fun z hz => hn z (List.mem_cons_of_mem _ hz)) w
  refine ⟨.float k (ys.foldl (fmx k) x), ?_, ?_⟩
  · rw [List.map_cons] at hr
    simp [execOp, ho, resolve, invoke, builtin, Builtin.max_, hr, h1]
  · simp only [cn, cn1, cn0]
    rw [cb_num h2]
end
end Go.Proofs.Ytfkblhlkeglilaa

namespace Go.Proofs.Ytfkblhlkeglilaa
open Go.RowKit
/-- A quarter: (k - 8) / 4. -/
def qw (k : Nat) : Nat := fop .quo .f32 (FloatKind.f32.nearest ((k : Int) - 8)) 1082130432
def dst (k : Nat) : Nat := if 8 ≤ k then k - 8 else 8 - k
end Go.Proofs.Ytfkblhlkeglilaa

namespace Go.Proofs.Ytfkblhlkeglilaa
open Go.RowKit
theorem bl_get {bs : List Int} {k : Nat} (h : k < bs.length) : (bl bs)[k]? = some (.int .u8 (bs.getD k 0)) := by
  simp [bl, List.getD, h]
def Bytes (bs : List Int) : Prop := ∀ b ∈ bs, 0 ≤ b ∧ b < 256
theorem byte_get {bs : List Int} {k : Nat} (hb : Bytes bs) (h : k < bs.length) : 0 ≤ bs.getD k 0 ∧ bs.getD k 0 < 256 := by
  have : bs.getD k 0 = bs[k] := by simp [List.getD, h]
  rw [this]; exact hb _ (List.getElem_mem h)
/-- A drawn mesh of quarters. -/
structure DM where
  k : Nat
  W : Nat
  H : Nat
  D : Nat
  ar : Option Addr
  cr : Nat
  vs : List V3
def hqw (k : Nat) : Nat := fop .quo .f32 (FloatKind.f32.nearest ((k : Int) - 4)) 1073741824
def Q3 (v : V3) : Prop := ∃ i j l : Nat, (i < 17 ∧ j < 17 ∧ l < 17) ∧ v = (qw i, qw j, qw l)
def DM.ok (x : DM) : Prop := x.k < 9 ∧ (1 ≤ x.W ∧ x.W ≤ 4) ∧ (1 ≤ x.H ∧ x.H ≤ 4) ∧ (1 ≤ x.D ∧ x.D ≤ 3) ∧ x.vs.length = x.W * x.H * x.D ∧ ∀ v ∈ x.vs, Q3 v
def DM.v (x : DM) : Value := .agg #[.float .f32 (hqw x.k), .float .f32 0, .float .f32 0, .float .f32 1056964608, .int .i64 (x.W : Int), .int .i64 (x.H : Int), .int .i64 (x.D : Int), .slice x.ar x.vs.length x.cr]
section
variable {P : Program} {w0 : World} {E : Env} {o : Oper}
theorem Pick.cons1 {O O1 M F : List Ent} {e : Ent} (h1 : Rem O [e] O1) (h2 : Pick O1 M F) : Pick O (e :: M) F := Pick.take h1 h2
theorem Pick.last {O S O1 : List Ent} (h1 : Rem O S O1) : Pick O S O1 := by simpa using Pick.take h1 .nil
theorem Pick.e2 {O O1 F : List Ent} {e1 e2 : Ent} (h1 : Rem O [e1] O1) (h2 : Rem O1 [e2] F) : Pick O [e1, e2] F := Pick.take h1 (Pick.take h2 .nil)
end
end Go.Proofs.Ytfkblhlkeglilaa

namespace Go.Proofs.Ytfkblhlkeglilaa
open Go.RowKit Go.ChangeShapes Go.WideShapes Go.Deep
section
variable {H : Type} {enc : TypeId × Value → H} {P : Program} {w : World} {base : Nat} {spare : Nat → Bool} {held : Bool}
theorem open_u8s {r : Reach} {b0 : Nat} {t e : TypeId} {v : Value} {d : DataW H} {ps : List MemPlace} (ht : P.underlying t = some (.slice e)) (he : P.underlying e = some (.int .u8)) (hc : P.cellsOf e = 1)
    (hval : Value.okWide P w r b0 t v) (hd : DataW.Trod enc P w base spare held t v d ps) :
    ∃ (a : Option Addr) (bs : List Int) (c : Nat), v = .slice a bs.length c ∧ Cl w a (bl bs) ∧ Bytes bs := by
  obtain ⟨a, len, cap, rfl⟩ := okWide_slice ht hval
  obtain ⟨fuel, hd⟩ := hd
  rcases open_slice1 ht hc hd with ⟨h, _⟩ | ⟨a', len', cap', m, n, V, D, Pl, h, hb, hlc, hm, rfl, hx, hV⟩
  · simp only [Value.cells, List.cons.injEq, Value.slice.injEq, and_true] at h
    obtain ⟨rfl, rfl, rfl⟩ := h
    exact ⟨none, [], 0, rfl, .inl rfl, fun b hb => by cases hb⟩
  · simp only [Value.cells, List.cons.injEq, Value.slice.injEq, and_true] at h
    obtain ⟨rfl, rfl, rfl⟩ := h
    have hm' : len ≤ (if spare a'.block then cap else len) := by split <;> omega
    have hfl : ∀ i, i < len → ∃ b : Nat, V i = .int .u8 (b : Int) ∧ b < 256 := by
      intro i hi
      have := (hV i (by omega)).2
      obtain ⟨k, hk, _, h2⟩ := DataW.trod_int he this
      have h3 : (0 : Int) ≤ k ∧ k ≤ 255 := by
        simp only [Lit.wf, Bool.and_eq_true, decide_eq_true_eq] at h2
        exact ⟨h2.1, h2.2⟩
      simp only [List.cons.injEq, and_true] at hk
      refine ⟨k.toNat, ?_, ?_⟩
      · rw [hk]
        rw [Int.toNat_of_nonneg h3.1]
      · omega
    obtain ⟨B, hB⟩ := choose_lt hfl
    refine ⟨some a', (List.range len).map (fun i => ((B i : Nat) : Int)), cap, by simp, ?_, ?_⟩
    · by_cases h0 : len = 0
      · subst h0; exact .inl rfl
      · have hsp : a'.spot = none := by
          have := (hV 0 (by omega)).1
          simpa [Addr.add] using World.cell?_spot this
        obtain ⟨bk, off, spot⟩ := a'
        simp only at hsp
        subst hsp
        refine .inr ⟨_, rfl, rfl, fun i u hu => ?_⟩
        unfold bl at hu
        simp only [List.getElem?_map, Option.map_eq_some_iff, List.map_map] at hu
        obtain ⟨j, hj, rfl⟩ := hu
        obtain ⟨hlt, rfl⟩ := List.getElem?_eq_some_iff.1 hj
        simp only [List.length_range] at hlt
        have h1 := (hV i (by omega)).1
        rw [add_plain] at h1
        refine ⟨V i, h1, ?_⟩
        rw [(hB i hlt).1]
        simp [cn, cn1, cn0]
    · intro x hx
      obtain ⟨i, hi, rfl⟩ := List.mem_map.1 hx
      have := (hB i (by simpa using hi)).2
      omega
end
end Go.Proofs.Ytfkblhlkeglilaa

namespace Go.Proofs.Ytfkblhlkeglilaa
open Go.RowKit
set_option linter.unusedVariables false
set_option linter.unusedSimpArgs false
set_option maxRecDepth 20000
theorem known20_Base : Known Try.prog 20 := Known.mk' Try.func20 (by kernel_rfl)
theorem c_IsFinite {w : World} (x : Nat) : Pure Try.prog 20 [.float .f32 x] w (.bool (fin x)) := by
  refine Pure.enter Try.func20 rfl Try.ntmps20 (Nat.le_of_ble_eq_true rfl) ?_
  refine V.seq ?_
  refine V.region ?_
  refine VL.r (.inl rfl) rfl (by decide) (yr_assign (u := .bool false) rfl rfl) ?_
  refine VL.nil ?_
  refine VE.then_wp ?_
  refine V.seq ?_
  refine V.region ?_
  refine VL.r (.inl rfl) rfl (by decide) (yr_move rfl rfl) ?_
  refine VL.r (.inl rfl) rfl (by decide) (yr_move rfl rfl) ?_
  refine VL.r (.inl rfl) rfl (by decide) (yr_float rfl (.inr (.inl rfl)) rfl rfl) ?_
  refine VL.r (.inl rfl) rfl (by decide) (yr_fcmp (b := 0) rfl (.inl rfl) rfl rfl) ?_
  refine VL.r (.inl rfl) rfl (by decide) (yr_assign rfl rfl) ?_
  refine VL.nil ?_
  refine VE.then_wp ?_
  refine V.ret ?_
  refine ret1 rfl rfl (fun w1 hw => ?_)
  exact ⟨rfl, hw.below⟩
theorem c_isLength {w : World} (x : Nat) : Pure Try.prog 19 [.float .f32 x] w (.bool (above x)) := by
  refine Pure.enter Try.func19 rfl Try.ntmps19 (Nat.le_of_ble_eq_true rfl) ?_
  refine V.seq ?_
  refine V.region ?_
  refine VL.r (.inl rfl) rfl (by decide) (yr_assign (u := .bool false) rfl rfl) ?_
  refine VL.nil ?_
  refine VE.then_wp ?_
  refine V.seq ?_
  refine V.region ?_
  refine VL.r (.inl rfl) rfl (by decide) (yr_move rfl rfl) ?_
  refine VL.q (.inl rfl) rfl (by decide) (yq_callf rfl known20_Base (.cons rfl .nil) (fun w hw => c_IsFinite _)) ?_
  refine VL.r (.inl rfl) rfl (by decide) (yr_move rfl rfl) ?_
  refine VX.split 5 _ rfl (fun h1 => ?_) (fun h1 => ?_)
  · skip
    refine VL.r (.inr ⟨_, _, _, rfl, rfl, rfl⟩) rfl (by decide) (yr_move rfl rfl) ?_
    refine VL.r (.inr ⟨_, _, _, rfl, rfl, rfl⟩) rfl (by decide) (yr_fcmp (b := 0) rfl (.inr (.inr (.inr (.inr (.inl rfl))))) rfl rfl) ?_
    refine VL.r (.inl rfl) rfl (by decide) (yr_pick_t rfl rfl rfl) ?_
    refine VL.r (.inl rfl) rfl (by decide) (yr_assign rfl rfl) ?_
    refine VL.nil ?_
    refine VE.then_wp ?_
    refine V.ret ?_
    refine ret1 rfl rfl (fun w1 hw => ?_)
    exact ⟨by simp only [above, *, Bool.true_and], hw.below⟩
  refine VL.no rfl rfl rfl rfl rfl (by decide) ?_
  refine VL.no rfl rfl rfl rfl rfl (by decide) ?_
  refine VL.r (.inl rfl) rfl (by decide) (yr_pick_f (u := .bool false) rfl rfl rfl) ?_
  refine VL.r (.inl rfl) rfl (by decide) (yr_assign rfl rfl) ?_
  refine VL.nil ?_
  refine VE.then_wp ?_
  refine V.ret ?_
  refine ret1 rfl rfl (fun w1 hw => ?_)
  exact ⟨by simp only [above, *, Bool.false_and], hw.below⟩
end Go.Proofs.Ytfkblhlkeglilaa

namespace Go.Proofs.Ytfkblhlkeglilaa
open Go.RowKit
set_option linter.unusedVariables false
set_option linter.unusedSimpArgs false
set_option maxRecDepth 20000
theorem ext61_Chol : ExtF Try.prog 61 Extern.MathSqrt.sqrt := ⟨_, Try.func61, by kernel_rfl, by kernel_rfl, by kernel_rfl, by kernel_rfl⟩
theorem known56_Chol : Known Try.prog 56 := Known.mk' Try.func56 (by kernel_rfl)
theorem c_Sqrt {w : World} (x : Nat) : Pure Try.prog 56 [.float .f64 x] w (.float .f64 (fsqrt x)) := by
  refine Pure.enter Try.func56 rfl Try.ntmps56 (Nat.le_of_ble_eq_true rfl) ?_
  refine V.seq ?_
  refine V.region ?_
  refine VL.r (.inl rfl) rfl (by decide) (yr_assign (u := .float .f64 0) rfl rfl) ?_
  refine VL.nil ?_
  refine VE.then_wp ?_
  refine V.seq ?_
  refine V.region ?_
  refine VL.r (.inl rfl) rfl (by decide) (yr_move rfl rfl) ?_
  refine VL.q (.inl rfl) rfl (by decide) (yq_ext rfl ext61_Chol (.cons rfl .nil) (fun vs w h => ext_sqrt vs w h)) ?_
  refine VL.r (.inl rfl) rfl (by decide) (yr_assign rfl rfl) ?_
  refine VL.nil ?_
  refine VE.then_wp ?_
  refine V.ret ?_
  refine ret1 rfl rfl (fun w1 hw => ?_)
  exact ⟨rfl, hw.below⟩
theorem c_RootNumber {w : World} (x : Nat) : Pure Try.prog 49 [.float .f32 x] w (.float .f32 (sqrt32 x)) := by
  refine Pure.enter Try.func49 rfl Try.ntmps49 (Nat.le_of_ble_eq_true rfl) ?_
  refine V.seq ?_
  refine V.region ?_
  refine VL.r (.inl rfl) rfl (by decide) (yr_assign (u := .float .f32 0) rfl rfl) ?_
  refine VL.nil ?_
  refine VE.then_wp ?_
  refine V.seq ?_
  refine V.region ?_
  refine VL.r (.inl rfl) rfl (by decide) (yr_move rfl rfl) ?_
  refine VL.r (.inl rfl) rfl (by decide) (yr_fconv rfl Try.underlying25 Try.underlying45 (by decide) rfl (fover_up _)) ?_
  refine VL.q (.inl rfl) rfl (by decide) (yq_callf rfl known56_Chol (.cons rfl .nil) (fun w hw => c_Sqrt _)) ?_
  refine VL.r (.inl rfl) rfl (by decide) (yr_fconv rfl Try.underlying45 Try.underlying25 (by decide) rfl (fover_sqrt _)) ?_
  refine VL.r (.inl rfl) rfl (by decide) (yr_assign rfl rfl) ?_
  refine VL.nil ?_
  refine VE.then_wp ?_
  refine V.ret ?_
  refine ret1 rfl rfl (fun w1 hw => ?_)
  exact ⟨rfl, hw.below⟩
end Go.Proofs.Ytfkblhlkeglilaa

namespace Go.Proofs.Ytfkblhlkeglilaa
open Go.RowKit
set_option linter.unusedVariables false
set_option linter.unusedSimpArgs false
set_option maxRecDepth 20000
theorem c_within {w : World} {n lo hi : Int} : Pure Try.prog 35 [.int .i64 n, .int .i64 lo, .int .i64 hi] w (.bool (decide (lo ≤ n ∧ n ≤ hi))) := by
  refine Pure.enter Try.func35 rfl Try.ntmps35 (Nat.le_of_ble_eq_true rfl) ?_
  refine V.seq ?_
  refine V.region ?_
  refine VL.r (.inl rfl) rfl (by decide) (yr_assign (u := .bool false) rfl rfl) ?_
  refine VL.nil ?_
  refine VE.then_wp ?_
  refine V.seq ?_
  refine V.region ?_
  refine VL.r (.inl rfl) rfl (by decide) (yr_move rfl rfl) ?_
  refine VL.r (.inl rfl) rfl (by decide) (yr_move rfl rfl) ?_
  refine VL.r (.inl rfl) rfl (by decide) (yr_icmp rfl (.inr (.inr (.inr (.inr (.inr rfl))))) rfl rfl) ?_
  refine VL.r (.inl rfl) rfl (by decide) (yr_move rfl rfl) ?_
  refine VX.split 10 _ rfl (fun h1 => ?_) (fun h1 => ?_)
  · skip
    replace h1 := ic_geq h1
    refine VL.r (.inr ⟨_, _, _, rfl, rfl, rfl⟩) rfl (by decide) (yr_move rfl rfl) ?_
    refine VL.r (.inr ⟨_, _, _, rfl, rfl, rfl⟩) rfl (by decide) (yr_move rfl rfl) ?_
    refine VL.r (.inr ⟨_, _, _, rfl, rfl, rfl⟩) rfl (by decide) (yr_icmp rfl (.inr (.inr (.inr (.inl rfl)))) rfl rfl) ?_
    refine VL.r (.inl rfl) rfl (by decide) (yr_pick_t rfl rfl rfl) ?_
    refine VL.r (.inl rfl) rfl (by decide) (yr_assign rfl rfl) ?_
    refine VL.nil ?_
    refine VE.then_wp ?_
    refine V.ret ?_
    refine ret1 rfl rfl (fun w1 hw => ?_)
    exact ⟨congrArg Value.bool (in_t (by assumption)), hw.below⟩
  replace h1 := ic_geq' h1
  refine VL.no rfl rfl rfl rfl rfl (by decide) ?_
  refine VL.no rfl rfl rfl rfl rfl (by decide) ?_
  refine VL.no rfl rfl rfl rfl rfl (by decide) ?_
  refine VL.r (.inl rfl) rfl (by decide) (yr_pick_f (u := .bool false) rfl rfl rfl) ?_
  refine VL.r (.inl rfl) rfl (by decide) (yr_assign rfl rfl) ?_
  refine VL.nil ?_
  refine VE.then_wp ?_
  refine V.ret ?_
  refine ret1 rfl rfl (fun w1 hw => ?_)
  exact ⟨congrArg Value.bool (in_f (by assumption)), hw.below⟩
end Go.Proofs.Ytfkblhlkeglilaa

namespace Go.Proofs.Ytfkblhlkeglilaa
open Go.RowKit
set_option linter.unusedVariables false
set_option linter.unusedSimpArgs false
set_option maxRecDepth 20000
theorem zero32_Vec : (Try.prog.info? 32).bind (·.zero) = some (Value.agg #[Value.float .f32 0, Value.float .f32 0, Value.float .f32 0]) := by kernel_rfl
theorem sz25_Vec : (Try.prog.info? 25).map (·.size) = some 1 := by kernel_rfl
theorem fb25_Vec : flatB Try.prog 25 = true := by kernel_rfl
theorem lay32_Vec : Lay Try.prog 32 [Value.float .f32 0, Value.float .f32 0, Value.float .f32 0] [(0, 1), (1, 1), (2, 1)] := Lay.mk' (by kernel_rfl) (by kernel_rfl)
theorem sz32_Vec : (Try.prog.info? 32).map (·.size) = some 3 := by kernel_rfl
theorem known36_Vec : Known Try.prog 36 := Known.mk' Try.func36 (by kernel_rfl)
theorem known49_Vec : Known Try.prog 49 := Known.mk' Try.func49 (by kernel_rfl)
theorem known20_Vec : Known Try.prog 20 := Known.mk' Try.func20 (by kernel_rfl)
theorem mixed_Vec : Try.prog.follows .mixedOrders = true := by kernel_rfl
theorem known33_Vec : Known Try.prog 33 := Known.mk' Try.func33 (by kernel_rfl)
theorem known32_Vec : Known Try.prog 32 := Known.mk' Try.func32 (by kernel_rfl)
theorem known63_Vec : Known Try.prog 63 := Known.mk' Try.func63 (by kernel_rfl)
theorem known46_Vec : Known Try.prog 46 := Known.mk' Try.func46 (by kernel_rfl)
attribute [local irreducible] fop fcmp fconv sqrt32 fneg
theorem c_add3 {w : World} {x1 x2 x3 y1 y2 y3 : Nat} : Pure Try.prog 45 [vv (x1, x2, x3), vv (y1, y2, y3)] w (vv (add3 (x1, x2, x3) (y1, y2, y3))) := by
  refine Pure.enter Try.func45 rfl Try.ntmps45 (Nat.le_of_ble_eq_true rfl) ?_
  refine V.seq ?_
  refine V.region ?_
  refine VL.new1 (.inl rfl) rfl (by decide) (yn_box rfl rfl (.inr ⟨rfl, rfl⟩)) ?_
  intro b2
  refine VL.new1 (.inl rfl) rfl (by decide) (yn_box rfl rfl (.inr ⟨rfl, rfl⟩)) ?_
  intro b3
  refine VL.new1 (.inl rfl) rfl (by decide) (yn_alloc rfl zero32_Vec rfl) ?_
  intro b4
  refine VL.nil ?_
  refine VE.then_wp ?_
  refine V.seq ?_
  refine V.region ?_
  refine VL.r (.inl rfl) rfl (by decide) (yr_fieldAddr rfl Try.underlying32 rfl rfl sz25_Vec (by decide) rfl) ?_
  refine VL.q (.inl rfl) rfl (by decide) (yq_load rfl fb25_Vec rfl zz0 rfl) ?_
  refine VL.r (.inl rfl) rfl (by decide) (yr_fieldAddr rfl Try.underlying32 rfl rfl sz25_Vec (by decide) rfl) ?_
  refine VL.q (.inl rfl) rfl (by decide) (yq_load rfl fb25_Vec rfl zz0 rfl) ?_
  refine VL.r (.inl rfl) rfl (by decide) (yr_float rfl (.inl rfl) rfl rfl) ?_
  refine VL.r (.inl rfl) rfl (by decide) (yr_fieldAddr rfl Try.underlying32 rfl rfl sz25_Vec (by decide) rfl) ?_
  refine VL.q (.inl rfl) rfl (by decide) (yq_load rfl fb25_Vec rfl zz0 rfl) ?_
  refine VL.r (.inl rfl) rfl (by decide) (yr_fieldAddr rfl Try.underlying32 rfl rfl sz25_Vec (by decide) rfl) ?_
  refine VL.q (.inl rfl) rfl (by decide) (yq_load rfl fb25_Vec rfl zz0 rfl) ?_
  refine VL.r (.inl rfl) rfl (by decide) (yr_float rfl (.inl rfl) rfl rfl) ?_
  refine VL.r (.inl rfl) rfl (by decide) (yr_fieldAddr rfl Try.underlying32 rfl rfl sz25_Vec (by decide) rfl) ?_
  refine VL.q (.inl rfl) rfl (by decide) (yq_load rfl fb25_Vec rfl zz0 rfl) ?_
  refine VL.r (.inl rfl) rfl (by decide) (yr_fieldAddr rfl Try.underlying32 rfl rfl sz25_Vec (by decide) rfl) ?_
  refine VL.q (.inl rfl) rfl (by decide) (yq_load rfl fb25_Vec rfl zz0 rfl) ?_
  refine VL.r (.inl rfl) rfl (by decide) (yr_float rfl (.inl rfl) rfl rfl) ?_
  refine VL.r (.inl rfl) rfl (by decide) (yr_build rfl lay32_Vec rfl (.cons rfl (.cons rfl (.cons rfl .nil))) zz7 rfl) ?_
  refine VL.s (.inl rfl) rfl (yc_store rfl sz32_Vec rfl rfl zz3 (.inr ⟨rfl, rfl⟩) rfl zz4 (by decide) rfl) ?_
  rintro ⟨⟩
  refine VL.nil ?_
  refine VE.then_wp ?_
  refine V.ret ?_
  refine retC rfl (rv_cellS rfl Try.underlying32 sz32_Vec zz0 rfl rfl rfl) (by nofun) (fun w1 hw => ?_)
  exact ⟨rfl, hw.below⟩
theorem c_sub3 {w : World} {x1 x2 x3 y1 y2 y3 : Nat} : Pure Try.prog 33 [vv (x1, x2, x3), vv (y1, y2, y3)] w (vv (sub3 (x1, x2, x3) (y1, y2, y3))) := by
  refine Pure.enter Try.func33 rfl Try.ntmps33 (Nat.le_of_ble_eq_true rfl) ?_
  refine V.seq ?_
  refine V.region ?_
  refine VL.new1 (.inl rfl) rfl (by decide) (yn_box rfl rfl (.inr ⟨rfl, rfl⟩)) ?_
  intro b2
  refine VL.new1 (.inl rfl) rfl (by decide) (yn_box rfl rfl (.inr ⟨rfl, rfl⟩)) ?_
  intro b3
  refine VL.new1 (.inl rfl) rfl (by decide) (yn_alloc rfl zero32_Vec rfl) ?_
  intro b4
  refine VL.nil ?_
  refine VE.then_wp ?_
  refine V.seq ?_
  refine V.region ?_
  refine VL.r (.inl rfl) rfl (by decide) (yr_fieldAddr rfl Try.underlying32 rfl rfl sz25_Vec (by decide) rfl) ?_
  refine VL.q (.inl rfl) rfl (by decide) (yq_load rfl fb25_Vec rfl zz0 rfl) ?_
  refine VL.r (.inl rfl) rfl (by decide) (yr_fieldAddr rfl Try.underlying32 rfl rfl sz25_Vec (by decide) rfl) ?_
  refine VL.q (.inl rfl) rfl (by decide) (yq_load rfl fb25_Vec rfl zz0 rfl) ?_
  refine VL.r (.inl rfl) rfl (by decide) (yr_float rfl (.inr (.inl rfl)) rfl rfl) ?_
  refine VL.r (.inl rfl) rfl (by decide) (yr_fieldAddr rfl Try.underlying32 rfl rfl sz25_Vec (by decide) rfl) ?_
  refine VL.q (.inl rfl) rfl (by decide) (yq_load rfl fb25_Vec rfl zz0 rfl) ?_
  refine VL.r (.inl rfl) rfl (by decide) (yr_fieldAddr rfl Try.underlying32 rfl rfl sz25_Vec (by decide) rfl) ?_
  refine VL.q (.inl rfl) rfl (by decide) (yq_load rfl fb25_Vec rfl zz0 rfl) ?_
  refine VL.r (.inl rfl) rfl (by decide) (yr_float rfl (.inr (.inl rfl)) rfl rfl) ?_
  refine VL.r (.inl rfl) rfl (by decide) (yr_fieldAddr rfl Try.underlying32 rfl rfl sz25_Vec (by decide) rfl) ?_
  refine VL.q (.inl rfl) rfl (by decide) (yq_load rfl fb25_Vec rfl zz0 rfl) ?_
  refine VL.r (.inl rfl) rfl (by decide) (yr_fieldAddr rfl Try.underlying32 rfl rfl sz25_Vec (by decide) rfl) ?_
  refine VL.q (.inl rfl) rfl (by decide) (yq_load rfl fb25_Vec rfl zz0 rfl) ?_
  refine VL.r (.inl rfl) rfl (by decide) (yr_float rfl (.inr (.inl rfl)) rfl rfl) ?_
  refine VL.r (.inl rfl) rfl (by decide) (yr_build rfl lay32_Vec rfl (.cons rfl (.cons rfl (.cons rfl .nil))) zz7 rfl) ?_
  refine VL.s (.inl rfl) rfl (yc_store rfl sz32_Vec rfl rfl zz3 (.inr ⟨rfl, rfl⟩) rfl zz4 (by decide) rfl) ?_
  rintro ⟨⟩
  refine VL.nil ?_
  refine VE.then_wp ?_
  refine V.ret ?_
  refine retC rfl (rv_cellS rfl Try.underlying32 sz32_Vec zz0 rfl rfl rfl) (by nofun) (fun w1 hw => ?_)
  exact ⟨rfl, hw.below⟩
theorem c_scale3 {w : World} {x1 x2 x3 : Nat} {k : Nat} : Pure Try.prog 46 [vv (x1, x2, x3), .float .f32 k] w (vv (scale3 (x1, x2, x3) k)) := by
  refine Pure.enter Try.func46 rfl Try.ntmps46 (Nat.le_of_ble_eq_true rfl) ?_
  refine V.seq ?_
  refine V.region ?_
  refine VL.new1 (.inl rfl) rfl (by decide) (yn_box rfl rfl (.inr ⟨rfl, rfl⟩)) ?_
  intro b2
  refine VL.new1 (.inl rfl) rfl (by decide) (yn_alloc rfl zero32_Vec rfl) ?_
  intro b4
  refine VL.nil ?_
  refine VE.then_wp ?_
  refine V.seq ?_
  refine V.region ?_
  refine VL.r (.inl rfl) rfl (by decide) (yr_fieldAddr rfl Try.underlying32 rfl rfl sz25_Vec (by decide) rfl) ?_
  refine VL.q (.inl rfl) rfl (by decide) (yq_load rfl fb25_Vec rfl zz0 rfl) ?_
  refine VL.r (.inl rfl) rfl (by decide) (yr_move rfl rfl) ?_
  refine VL.r (.inl rfl) rfl (by decide) (yr_float rfl (.inr (.inr (.inl rfl))) rfl rfl) ?_
  refine VL.r (.inl rfl) rfl (by decide) (yr_fieldAddr rfl Try.underlying32 rfl rfl sz25_Vec (by decide) rfl) ?_
  refine VL.q (.inl rfl) rfl (by decide) (yq_load rfl fb25_Vec rfl zz0 rfl) ?_
  refine VL.r (.inl rfl) rfl (by decide) (yr_move rfl rfl) ?_
  refine VL.r (.inl rfl) rfl (by decide) (yr_float rfl (.inr (.inr (.inl rfl))) rfl rfl) ?_
  refine VL.r (.inl rfl) rfl (by decide) (yr_fieldAddr rfl Try.underlying32 rfl rfl sz25_Vec (by decide) rfl) ?_
  refine VL.q (.inl rfl) rfl (by decide) (yq_load rfl fb25_Vec rfl zz0 rfl) ?_
  refine VL.r (.inl rfl) rfl (by decide) (yr_move rfl rfl) ?_
  refine VL.r (.inl rfl) rfl (by decide) (yr_float rfl (.inr (.inr (.inl rfl))) rfl rfl) ?_
  refine VL.r (.inl rfl) rfl (by decide) (yr_build rfl lay32_Vec rfl (.cons rfl (.cons rfl (.cons rfl .nil))) zz7 rfl) ?_
  refine VL.s (.inl rfl) rfl (yc_store rfl sz32_Vec rfl rfl zz3 (.inr ⟨rfl, rfl⟩) rfl zz4 (by decide) rfl) ?_
  rintro ⟨⟩
  refine VL.nil ?_
  refine VE.then_wp ?_
  refine V.ret ?_
  refine retC rfl (rv_cellS rfl Try.underlying32 sz32_Vec zz0 rfl rfl rfl) (by nofun) (fun w1 hw => ?_)
  exact ⟨rfl, hw.below⟩
theorem c_inner3 {w : World} {x1 x2 x3 y1 y2 y3 : Nat} : Pure Try.prog 36 [vv (x1, x2, x3), vv (y1, y2, y3)] w (.float .f32 (inner3 (x1, x2, x3) (y1, y2, y3))) := by
  refine Pure.enter Try.func36 rfl Try.ntmps36 (Nat.le_of_ble_eq_true rfl) ?_
  refine V.seq ?_
  refine V.region ?_
  refine VL.new1 (.inl rfl) rfl (by decide) (yn_box rfl rfl (.inr ⟨rfl, rfl⟩)) ?_
  intro b2
  refine VL.new1 (.inl rfl) rfl (by decide) (yn_box rfl rfl (.inr ⟨rfl, rfl⟩)) ?_
  intro b3
  refine VL.r (.inl rfl) rfl (by decide) (yr_assign (u := .float .f32 0) rfl rfl) ?_
  refine VL.nil ?_
  refine VE.then_wp ?_
  refine V.seq ?_
  refine V.region ?_
  refine VL.r (.inl rfl) rfl (by decide) (yr_fieldAddr rfl Try.underlying32 rfl rfl sz25_Vec (by decide) rfl) ?_
  refine VL.q (.inl rfl) rfl (by decide) (yq_load rfl fb25_Vec rfl zz0 rfl) ?_
  refine VL.r (.inl rfl) rfl (by decide) (yr_fieldAddr rfl Try.underlying32 rfl rfl sz25_Vec (by decide) rfl) ?_
  refine VL.q (.inl rfl) rfl (by decide) (yq_load rfl fb25_Vec rfl zz0 rfl) ?_
  refine VL.r (.inl rfl) rfl (by decide) (yr_float rfl (.inr (.inr (.inl rfl))) rfl rfl) ?_
  refine VL.r (.inl rfl) rfl (by decide) (yr_fieldAddr rfl Try.underlying32 rfl rfl sz25_Vec (by decide) rfl) ?_
  refine VL.q (.inl rfl) rfl (by decide) (yq_load rfl fb25_Vec rfl zz0 rfl) ?_
  refine VL.r (.inl rfl) rfl (by decide) (yr_fieldAddr rfl Try.underlying32 rfl rfl sz25_Vec (by decide) rfl) ?_
  refine VL.q (.inl rfl) rfl (by decide) (yq_load rfl fb25_Vec rfl zz0 rfl) ?_
  refine VL.r (.inl rfl) rfl (by decide) (yr_float rfl (.inr (.inr (.inl rfl))) rfl rfl) ?_
  refine VL.r (.inl rfl) rfl (by decide) (yr_float rfl (.inl rfl) rfl rfl) ?_
  refine VL.r (.inl rfl) rfl (by decide) (yr_fieldAddr rfl Try.underlying32 rfl rfl sz25_Vec (by decide) rfl) ?_
  refine VL.q (.inl rfl) rfl (by decide) (yq_load rfl fb25_Vec rfl zz0 rfl) ?_
  refine VL.r (.inl rfl) rfl (by decide) (yr_fieldAddr rfl Try.underlying32 rfl rfl sz25_Vec (by decide) rfl) ?_
  refine VL.q (.inl rfl) rfl (by decide) (yq_load rfl fb25_Vec rfl zz0 rfl) ?_
  refine VL.r (.inl rfl) rfl (by decide) (yr_float rfl (.inr (.inr (.inl rfl))) rfl rfl) ?_
  refine VL.r (.inl rfl) rfl (by decide) (yr_float rfl (.inl rfl) rfl rfl) ?_
  refine VL.r (.inl rfl) rfl (by decide) (yr_assign rfl rfl) ?_
  refine VL.nil ?_
  refine VE.then_wp ?_
  refine V.ret ?_
  refine ret1 rfl rfl (fun w1 hw => ?_)
  exact ⟨rfl, hw.below⟩
theorem c_cross3 {w : World} {x1 x2 x3 y1 y2 y3 : Nat} : Pure Try.prog 63 [vv (x1, x2, x3), vv (y1, y2, y3)] w (vv (cross3 (x1, x2, x3) (y1, y2, y3))) := by
  refine Pure.enter Try.func63 rfl Try.ntmps63 (Nat.le_of_ble_eq_true rfl) ?_
  refine V.seq ?_
  refine V.region ?_
  refine VL.new1 (.inl rfl) rfl (by decide) (yn_box rfl rfl (.inr ⟨rfl, rfl⟩)) ?_
  intro b2
  refine VL.new1 (.inl rfl) rfl (by decide) (yn_box rfl rfl (.inr ⟨rfl, rfl⟩)) ?_
  intro b3
  refine VL.new1 (.inl rfl) rfl (by decide) (yn_alloc rfl zero32_Vec rfl) ?_
  intro b4
  refine VL.nil ?_
  refine VE.then_wp ?_
  refine V.seq ?_
  refine V.region ?_
  refine VL.r (.inl rfl) rfl (by decide) (yr_fieldAddr rfl Try.underlying32 rfl rfl sz25_Vec (by decide) rfl) ?_
  refine VL.q (.inl rfl) rfl (by decide) (yq_load rfl fb25_Vec rfl zz0 rfl) ?_
  refine VL.r (.inl rfl) rfl (by decide) (yr_fieldAddr rfl Try.underlying32 rfl rfl sz25_Vec (by decide) rfl) ?_
  refine VL.q (.inl rfl) rfl (by decide) (yq_load rfl fb25_Vec rfl zz0 rfl) ?_
  refine VL.r (.inl rfl) rfl (by decide) (yr_float rfl (.inr (.inr (.inl rfl))) rfl rfl) ?_
  refine VL.r (.inl rfl) rfl (by decide) (yr_fieldAddr rfl Try.underlying32 rfl rfl sz25_Vec (by decide) rfl) ?_
  refine VL.q (.inl rfl) rfl (by decide) (yq_load rfl fb25_Vec rfl zz0 rfl) ?_
  refine VL.r (.inl rfl) rfl (by decide) (yr_fieldAddr rfl Try.underlying32 rfl rfl sz25_Vec (by decide) rfl) ?_
  refine VL.q (.inl rfl) rfl (by decide) (yq_load rfl fb25_Vec rfl zz0 rfl) ?_
  refine VL.r (.inl rfl) rfl (by decide) (yr_float rfl (.inr (.inr (.inl rfl))) rfl rfl) ?_
  refine VL.r (.inl rfl) rfl (by decide) (yr_float rfl (.inr (.inl rfl)) rfl rfl) ?_
  refine VL.r (.inl rfl) rfl (by decide) (yr_fieldAddr rfl Try.underlying32 rfl rfl sz25_Vec (by decide) rfl) ?_
  refine VL.q (.inl rfl) rfl (by decide) (yq_load rfl fb25_Vec rfl zz0 rfl) ?_
  refine VL.r (.inl rfl) rfl (by decide) (yr_fieldAddr rfl Try.underlying32 rfl rfl sz25_Vec (by decide) rfl) ?_
  refine VL.q (.inl rfl) rfl (by decide) (yq_load rfl fb25_Vec rfl zz0 rfl) ?_
  refine VL.r (.inl rfl) rfl (by decide) (yr_float rfl (.inr (.inr (.inl rfl))) rfl rfl) ?_
  refine VL.r (.inl rfl) rfl (by decide) (yr_fieldAddr rfl Try.underlying32 rfl rfl sz25_Vec (by decide) rfl) ?_
  refine VL.q (.inl rfl) rfl (by decide) (yq_load rfl fb25_Vec rfl zz0 rfl) ?_
  refine VL.r (.inl rfl) rfl (by decide) (yr_fieldAddr rfl Try.underlying32 rfl rfl sz25_Vec (by decide) rfl) ?_
  refine VL.q (.inl rfl) rfl (by decide) (yq_load rfl fb25_Vec rfl zz0 rfl) ?_
  refine VL.r (.inl rfl) rfl (by decide) (yr_float rfl (.inr (.inr (.inl rfl))) rfl rfl) ?_
  refine VL.r (.inl rfl) rfl (by decide) (yr_float rfl (.inr (.inl rfl)) rfl rfl) ?_
  refine VL.r (.inl rfl) rfl (by decide) (yr_fieldAddr rfl Try.underlying32 rfl rfl sz25_Vec (by decide) rfl) ?_
  refine VL.q (.inl rfl) rfl (by decide) (yq_load rfl fb25_Vec rfl zz0 rfl) ?_
  refine VL.r (.inl rfl) rfl (by decide) (yr_fieldAddr rfl Try.underlying32 rfl rfl sz25_Vec (by decide) rfl) ?_
  refine VL.q (.inl rfl) rfl (by decide) (yq_load rfl fb25_Vec rfl zz0 rfl) ?_
  refine VL.r (.inl rfl) rfl (by decide) (yr_float rfl (.inr (.inr (.inl rfl))) rfl rfl) ?_
  refine VL.r (.inl rfl) rfl (by decide) (yr_fieldAddr rfl Try.underlying32 rfl rfl sz25_Vec (by decide) rfl) ?_
  refine VL.q (.inl rfl) rfl (by decide) (yq_load rfl fb25_Vec rfl zz0 rfl) ?_
  refine VL.r (.inl rfl) rfl (by decide) (yr_fieldAddr rfl Try.underlying32 rfl rfl sz25_Vec (by decide) rfl) ?_
  refine VL.q (.inl rfl) rfl (by decide) (yq_load rfl fb25_Vec rfl zz0 rfl) ?_
  refine VL.r (.inl rfl) rfl (by decide) (yr_float rfl (.inr (.inr (.inl rfl))) rfl rfl) ?_
  refine VL.r (.inl rfl) rfl (by decide) (yr_float rfl (.inr (.inl rfl)) rfl rfl) ?_
  refine VL.r (.inl rfl) rfl (by decide) (yr_build rfl lay32_Vec rfl (.cons rfl (.cons rfl (.cons rfl .nil))) zz7 rfl) ?_
  refine VL.s (.inl rfl) rfl (yc_store rfl sz32_Vec rfl rfl zz3 (.inr ⟨rfl, rfl⟩) rfl zz4 (by decide) rfl) ?_
  rintro ⟨⟩
  refine VL.nil ?_
  refine VE.then_wp ?_
  refine V.ret ?_
  refine retC rfl (rv_cellS rfl Try.underlying32 sz32_Vec zz0 rfl rfl rfl) (by nofun) (fun w1 hw => ?_)
  exact ⟨rfl, hw.below⟩
theorem c_long3 {w : World} {x1 x2 x3 : Nat} : Pure Try.prog 32 [vv (x1, x2, x3)] w (.float .f32 (long3 (x1, x2, x3))) := by
  refine Pure.enter Try.func32 rfl Try.ntmps32 (Nat.le_of_ble_eq_true rfl) ?_
  refine V.seq ?_
  refine V.region ?_
  refine VL.new1 (.inl rfl) rfl (by decide) (yn_box rfl rfl (.inr ⟨rfl, rfl⟩)) ?_
  intro b1
  refine VL.r (.inl rfl) rfl (by decide) (yr_assign (u := .float .f32 0) rfl rfl) ?_
  refine VL.nil ?_
  refine VE.then_wp ?_
  refine V.seq ?_
  refine V.region ?_
  refine VL.q (.inl rfl) rfl (by decide) (yq_loadS rfl Try.underlying32 sz32_Vec rfl zz0 rfl rfl rfl) ?_
  refine VL.q (.inl rfl) rfl (by decide) (yq_loadS rfl Try.underlying32 sz32_Vec rfl zz0 rfl rfl rfl) ?_
  refine VL.q (.inl rfl) rfl (by decide) (yq_callf rfl known36_Vec (.cons rfl (.cons rfl .nil)) (fun w hw => c_inner3)) ?_
  refine VL.q (.inl rfl) rfl (by decide) (yq_callf rfl known49_Vec (.cons rfl .nil) (fun w hw => c_RootNumber _)) ?_
  refine VL.r (.inl rfl) rfl (by decide) (yr_assign rfl rfl) ?_
  refine VL.nil ?_
  refine VE.then_wp ?_
  refine V.ret ?_
  refine ret1 rfl rfl (fun w1 hw => ?_)
  exact ⟨rfl, hw.below⟩
theorem c_fin3 {w : World} {x1 x2 x3 : Nat} : Pure Try.prog 24 [vv (x1, x2, x3)] w (.bool (fin3 (x1, x2, x3))) := by
  refine Pure.enter Try.func24 rfl Try.ntmps24 (Nat.le_of_ble_eq_true rfl) ?_
  refine V.seq ?_
  refine V.region ?_
  refine VL.new1 (.inl rfl) rfl (by decide) (yn_box rfl rfl (.inr ⟨rfl, rfl⟩)) ?_
  intro b1
  refine VL.r (.inl rfl) rfl (by decide) (yr_assign (u := .bool false) rfl rfl) ?_
  refine VL.nil ?_
  refine VE.then_wp ?_
  refine V.seq ?_
  refine V.region ?_
  refine VL.r (.inl rfl) rfl (by decide) (yr_fieldAddr rfl Try.underlying32 rfl rfl sz25_Vec (by decide) rfl) ?_
  refine VL.q (.inl rfl) rfl (by decide) (yq_load rfl fb25_Vec rfl zz0 rfl) ?_
  refine VL.q (.inl rfl) rfl (by decide) (yq_callf rfl known20_Vec (.cons rfl .nil) (fun w hw => c_IsFinite _)) ?_
  refine VL.r (.inl rfl) rfl (by decide) (yr_move rfl rfl) ?_
  refine VX.split 6 _ rfl (fun h1 => ?_) (fun h1 => ?_)
  · skip
    refine VL.r (.inr ⟨_, _, _, rfl, rfl, rfl⟩) rfl (by decide) (yr_fieldAddr rfl Try.underlying32 rfl rfl sz25_Vec (by decide) rfl) ?_
    refine VL.q (.inr ⟨_, _, _, rfl, rfl, rfl⟩) rfl (by decide) (yq_load rfl fb25_Vec rfl zz0 rfl) ?_
    refine VL.q (.inr ⟨_, _, _, rfl, rfl, rfl⟩) rfl (by decide) (yq_callf rfl known20_Vec (.cons rfl .nil) (fun w hw => c_IsFinite _)) ?_
    refine VL.r (.inl rfl) rfl (by decide) (yr_pick_t rfl rfl rfl) ?_
    refine VL.r (.inl rfl) rfl (by decide) (yr_move rfl rfl) ?_
    refine VX.split 11 _ rfl (fun h2 => ?_) (fun h2 => ?_)
    · skip
      refine VL.r (.inr ⟨_, _, _, rfl, rfl, rfl⟩) rfl (by decide) (yr_fieldAddr rfl Try.underlying32 rfl rfl sz25_Vec (by decide) rfl) ?_
      refine VL.q (.inr ⟨_, _, _, rfl, rfl, rfl⟩) rfl (by decide) (yq_load rfl fb25_Vec rfl zz0 rfl) ?_
      refine VL.q (.inr ⟨_, _, _, rfl, rfl, rfl⟩) rfl (by decide) (yq_callf rfl known20_Vec (.cons rfl .nil) (fun w hw => c_IsFinite _)) ?_
      refine VL.r (.inl rfl) rfl (by decide) (yr_pick_t rfl rfl rfl) ?_
      refine VL.r (.inl rfl) rfl (by decide) (yr_assign rfl rfl) ?_
      refine VL.nil ?_
      refine VE.then_wp ?_
      refine V.ret ?_
      refine ret1 rfl rfl (fun w1 hw => ?_)
      first
        | (exact ⟨congrArg Value.bool (fin3_t (a := (x1, x2, x3)) (by assumption) (by assumption)), hw.below⟩)
        | (exact ⟨congrArg Value.bool (fin3_f1 (a := (x1, x2, x3)) (by assumption)), hw.below⟩)
        | (exact ⟨congrArg Value.bool (fin3_f2 (a := (x1, x2, x3)) (by assumption) (by assumption)), hw.below⟩)
    refine VL.no rfl rfl rfl rfl rfl (by decide) ?_
    refine VL.no rfl rfl rfl rfl rfl (by decide) ?_
    refine VL.no rfl rfl rfl rfl rfl (by decide) ?_
    refine VL.r (.inl rfl) rfl (by decide) (yr_pick_f (u := .bool false) rfl rfl rfl) ?_
    refine VL.r (.inl rfl) rfl (by decide) (yr_assign rfl rfl) ?_
    refine VL.nil ?_
    refine VE.then_wp ?_
    refine V.ret ?_
    refine ret1 rfl rfl (fun w1 hw => ?_)
    first
      | (exact ⟨congrArg Value.bool (fin3_t (a := (x1, x2, x3)) (by assumption) (by assumption)), hw.below⟩)
      | (exact ⟨congrArg Value.bool (fin3_f1 (a := (x1, x2, x3)) (by assumption)), hw.below⟩)
      | (exact ⟨congrArg Value.bool (fin3_f2 (a := (x1, x2, x3)) (by assumption) (by assumption)), hw.below⟩)
  refine VL.no rfl rfl rfl rfl rfl (by decide) ?_
  refine VL.no rfl rfl rfl rfl rfl (by decide) ?_
  refine VL.no rfl rfl rfl rfl rfl (by decide) ?_
  refine VL.r (.inl rfl) rfl (by decide) (yr_pick_f (u := .bool false) rfl rfl rfl) ?_
  refine VL.r (.inl rfl) rfl (by decide) (yr_move rfl rfl) ?_
  refine VL.no rfl rfl rfl rfl rfl (by decide) ?_
  refine VL.no rfl rfl rfl rfl rfl (by decide) ?_
  refine VL.no rfl rfl rfl rfl rfl (by decide) ?_
  refine VL.r (.inl rfl) rfl (by decide) (yr_pick_f (u := .bool false) rfl rfl rfl) ?_
  refine VL.r (.inl rfl) rfl (by decide) (yr_assign rfl rfl) ?_
  refine VL.nil ?_
  refine VE.then_wp ?_
  refine V.ret ?_
  refine ret1 rfl rfl (fun w1 hw => ?_)
  first
    | (exact ⟨congrArg Value.bool (fin3_t (a := (x1, x2, x3)) (by assumption) (by assumption)), hw.below⟩)
    | (exact ⟨congrArg Value.bool (fin3_f1 (a := (x1, x2, x3)) (by assumption)), hw.below⟩)
    | (exact ⟨congrArg Value.bool (fin3_f2 (a := (x1, x2, x3)) (by assumption) (by assumption)), hw.below⟩)
theorem c_segF {w : World} {x1 x2 x3 y1 y2 y3 z1 z2 z3 : Nat} : Pure Try.prog 60 [vv (x1, x2, x3), vv (y1, y2, y3), vv (z1, z2, z3)] w (vv (segF (x1, x2, x3) (y1, y2, y3) (z1, z2, z3))) := by
  refine Pure.enter Try.func60 rfl Try.ntmps60 (Nat.le_of_ble_eq_true rfl) ?_
  refine V.seq ?_
  refine V.region ?_
  refine VL.new1 (.inl rfl) rfl (by decide) (yn_box rfl rfl (.inr ⟨rfl, rfl⟩)) ?_
  intro b3
  refine VL.new1 (.inl rfl) rfl (by decide) (yn_box rfl rfl (.inr ⟨rfl, rfl⟩)) ?_
  intro b4
  refine VL.new1 (.inl rfl) rfl (by decide) (yn_box rfl rfl (.inr ⟨rfl, rfl⟩)) ?_
  intro b5
  refine VL.new1 (.inl rfl) rfl (by decide) (yn_alloc rfl zero32_Vec rfl) ?_
  intro b6
  refine VL.nil ?_
  refine VE.then_wp ?_
  refine V.seq ?_
  refine Dr.V.drawR [(0, 5), (1, 5), (2, 5), (3, 5), (4, 5), (5, 5), (6, 2), (7, 2), (8, 3), (9, 3)] [(6, ((fun b => .pointer (some (adr (some ⟨b, 0, none⟩) 0))), (fun b => ⟨some ⟨b, 0, none⟩, [Value.float .f32 0, Value.float .f32 0, Value.float .f32 0], 3, 32⟩))), (7, ((fun b => .pointer (some (adr (some ⟨b, 0, none⟩) 0))), (fun b => ⟨some ⟨b, 0, none⟩, [Value.float .f32 0, Value.float .f32 0, Value.float .f32 0], 3, 32⟩)))] [] _ mixed_Vec (by kernel_rfl) (fun w hw => hw) ?_
  refine Dr.SW.p rfl (.inl rfl) rfl (by decide) (yq_loadS rfl Try.underlying32 sz32_Vec rfl zz1 rfl rfl rfl) ?_
  refine Dr.SW.p rfl (.inl rfl) rfl (by decide) (yq_loadS rfl Try.underlying32 sz32_Vec rfl zz1 rfl rfl rfl) ?_
  refine Dr.SW.p rfl (.inl rfl) rfl (by decide) (yq_callf rfl known33_Vec (.cons rfl (.cons rfl .nil)) (fun w hw => c_sub3)) ?_
  refine Dr.SW.p rfl (.inl rfl) rfl (by decide) (yq_loadS rfl Try.underlying32 sz32_Vec rfl zz1 rfl rfl rfl) ?_
  refine Dr.SW.p rfl (.inl rfl) rfl (by decide) (yq_loadS rfl Try.underlying32 sz32_Vec rfl zz1 rfl rfl rfl) ?_
  refine Dr.SW.p rfl (.inl rfl) rfl (by decide) (yq_callf rfl known33_Vec (.cons rfl (.cons rfl .nil)) (fun w hw => c_sub3)) ?_
  refine Dr.SW.a rfl rfl rfl (by decide) rfl (fun w0 => (yn_alloc rfl zero32_Vec rfl)) ?_
  intro b7
  refine Dr.SW.a rfl rfl rfl (by decide) rfl (fun w0 => (yn_alloc rfl zero32_Vec rfl)) ?_
  intro b8
  refine Dr.SW.s rfl (.inl rfl) rfl (yc_store rfl sz32_Vec rfl rfl (Dr.UpdF.app zz3) (.inr ⟨rfl, rfl⟩) rfl zz4 (by decide) rfl) ?_
  rintro ⟨⟩
  refine Dr.SW.s rfl (.inl rfl) rfl (yc_store rfl sz32_Vec rfl rfl (Dr.UpdF.app zz3) (.inr ⟨rfl, rfl⟩) rfl zz4 (by decide) rfl) ?_
  rintro ⟨⟩
  refine Dr.SW.done ?_
  refine Dr.eqO (by simp only [List.append_nil, List.append_assoc, List.cons_append, List.nil_append] <;> rfl) ?_
  refine VE.then_wp ?_
  refine V.seq ?_
  refine Dr.V.drawR [(0, 5), (1, 5), (2, 5), (3, 5), (4, 5), (5, 5)] [] [] _ mixed_Vec (by kernel_rfl) (fun w hw => hw) ?_
  refine Dr.SW.p rfl (.inl rfl) rfl (by decide) (yq_loadS rfl Try.underlying32 sz32_Vec rfl zz1 rfl rfl rfl) ?_
  refine Dr.SW.p rfl (.inl rfl) rfl (by decide) (yq_callf rfl known32_Vec (.cons rfl .nil) (fun w hw => c_long3)) ?_
  refine Dr.SW.p rfl (.inl rfl) rfl (by decide) (yq_loadS rfl Try.underlying32 sz32_Vec rfl zz1 rfl rfl rfl) ?_
  refine Dr.SW.p rfl (.inl rfl) rfl (by decide) (yq_callf rfl known32_Vec (.cons rfl .nil) (fun w hw => c_long3)) ?_
  refine Dr.SW.r rfl (.inl rfl) rfl (by decide) (yr_assign rfl rfl) ?_
  refine Dr.SW.r rfl (.inl rfl) rfl (by decide) (yr_assign rfl rfl) ?_
  refine Dr.SW.done ?_
  refine Dr.eqO (by simp only [List.append_nil, List.append_assoc, List.cons_append, List.nil_append] <;> rfl) ?_
  refine VE.then_wp ?_
  refine V.seq ?_
  refine V.region ?_
  refine VL.r (.inl rfl) rfl (by decide) (yr_move rfl rfl) ?_
  refine VL.r (.inl rfl) rfl (by decide) (yr_move rfl rfl) ?_
  refine VL.r (.inl rfl) rfl (by decide) (yr_float rfl (.inr (.inr (.inl rfl))) rfl rfl) ?_
  refine VL.r (.inl rfl) rfl (by decide) (yr_assign rfl rfl) ?_
  refine VL.nil ?_
  refine VE.then_wp ?_
  refine V.seq ?_
  refine V.region ?_
  refine VL.r (.inl rfl) rfl (by decide) (yr_move rfl rfl) ?_
  refine VL.r (.inl rfl) rfl (by decide) (yr_move rfl rfl) ?_
  refine VL.q (.inl rfl) rfl (by decide) (yq_loadS rfl Try.underlying32 sz32_Vec rfl zz0 rfl rfl rfl) ?_
  refine VL.q (.inl rfl) rfl (by decide) (yq_loadS rfl Try.underlying32 sz32_Vec rfl zz0 rfl rfl rfl) ?_
  refine VL.q (.inl rfl) rfl (by decide) (yq_callf rfl known36_Vec (.cons rfl (.cons rfl .nil)) (fun w hw => c_inner3)) ?_
  refine VL.r (.inl rfl) rfl (by decide) (yr_float rfl (.inl rfl) rfl rfl) ?_
  refine VL.r (.inl rfl) rfl (by decide) (yr_float rfl (.inr (.inr (.inl rfl))) rfl rfl) ?_
  refine VL.r (.inl rfl) rfl (by decide) (yr_assign rfl rfl) ?_
  refine VL.nil ?_
  refine VE.then_wp ?_
  refine V.seq ?_
  refine V.region ?_
  refine VL.r (.inl rfl) rfl (by decide) (yr_move rfl rfl) ?_
  refine VL.r (.inl rfl) rfl (by decide) (yr_move rfl rfl) ?_
  refine VL.r (.inl rfl) rfl (by decide) (yr_float rfl (.inl rfl) rfl rfl) ?_
  refine VL.r (.inl rfl) rfl (by decide) (yr_move rfl rfl) ?_
  refine VL.r (.inl rfl) rfl (by decide) (yr_float rfl (.inr (.inr (.inr rfl))) rfl rfl) ?_
  refine VL.r (.inl rfl) rfl (by decide) (yr_assign rfl rfl) ?_
  refine VL.nil ?_
  refine VE.then_wp ?_
  refine V.seq ?_
  refine V.seq ?_
  refine V.region ?_
  refine VL.r (.inl rfl) rfl (by decide) (yr_move rfl rfl) ?_
  refine VL.r (.inl rfl) rfl (by decide) (yr_fcmp (b := 0) rfl (.inr (.inr (.inr (.inr (.inl rfl))))) rfl rfl) ?_
  refine VL.r (.inl rfl) rfl (by decide) (yr_not rfl rfl) ?_
  refine VL.r (.inl rfl) rfl (by decide) (yr_move rfl rfl) ?_
  refine VX.split 42 _ rfl (fun h1 => ?_) (fun h1 => ?_)
  · skip
    replace h1 := bnot_t h1
    refine VL.no rfl rfl rfl rfl rfl (by decide) ?_
    refine VL.no rfl rfl rfl rfl rfl (by decide) ?_
    refine VL.no rfl rfl rfl rfl rfl (by decide) ?_
    refine VL.r (.inl rfl) rfl (by decide) (yr_pick_t (u := .bool true) rfl rfl rfl) ?_
    refine VL.nil ?_
    refine VE.then_wp ?_
    refine V.condT rfl ?_
    refine V.seq ?_
    refine V.region ?_
    refine VL.r (.inl rfl) rfl (by decide) (yr_build rfl lay32_Vec rfl .nil zz7 rfl) ?_
    refine VL.s (.inl rfl) rfl (yc_store rfl sz32_Vec rfl rfl zz3 (.inr ⟨rfl, rfl⟩) rfl zz4 (by decide) rfl) ?_
    rintro ⟨⟩
    refine VL.nil ?_
    refine VE.then_wp ?_
    refine V.ret ?_
    refine VE.then_ret ?_
    refine retC rfl (rv_cellS rfl Try.underlying32 sz32_Vec zz0 rfl rfl rfl) (by nofun) (fun w1 hw => ?_)
    first
      | (exact ⟨congrArg vv (segF_no1 (a := (x1, x2, x3)) (b := (y1, y2, y3)) (p := (z1, z2, z3)) (by assumption)).symm, hw.below⟩)
      | (exact ⟨congrArg vv (segF_no2 (a := (x1, x2, x3)) (b := (y1, y2, y3)) (p := (z1, z2, z3)) (by assumption) (by assumption)).symm, hw.below⟩)
      | (exact ⟨congrArg vv (segF_yes (a := (x1, x2, x3)) (b := (y1, y2, y3)) (p := (z1, z2, z3)) (by assumption) (by assumption)).symm, hw.below⟩)
  replace h1 := bnot_f h1
  refine VL.r (.inr ⟨_, _, _, rfl, rfl, rfl⟩) rfl (by decide) (yr_move rfl rfl) ?_
  refine VL.q (.inr ⟨_, _, _, rfl, rfl, rfl⟩) rfl (by decide) (yq_callf rfl known20_Vec (.cons rfl .nil) (fun w hw => c_IsFinite _)) ?_
  refine VL.r (.inr ⟨_, _, _, rfl, rfl, rfl⟩) rfl (by decide) (yr_not rfl rfl) ?_
  refine VL.r (.inl rfl) rfl (by decide) (yr_pick_f rfl rfl rfl) ?_
  refine VL.nil ?_
  refine VE.then_wp ?_
  refine V.cond rfl (fun h3 => ?_) (fun h3 => ?_)
  · skip
    replace h3 := bnot_t h3
    refine V.seq ?_
    refine V.region ?_
    refine VL.r (.inl rfl) rfl (by decide) (yr_build rfl lay32_Vec rfl .nil zz7 rfl) ?_
    refine VL.s (.inl rfl) rfl (yc_store rfl sz32_Vec rfl rfl zz3 (.inr ⟨rfl, rfl⟩) rfl zz4 (by decide) rfl) ?_
    rintro ⟨⟩
    refine VL.nil ?_
    refine VE.then_wp ?_
    refine V.ret ?_
    refine VE.then_ret ?_
    refine retC rfl (rv_cellS rfl Try.underlying32 sz32_Vec zz0 rfl rfl rfl) (by nofun) (fun w1 hw => ?_)
    first
      | (exact ⟨congrArg vv (segF_no1 (a := (x1, x2, x3)) (b := (y1, y2, y3)) (p := (z1, z2, z3)) (by assumption)).symm, hw.below⟩)
      | (exact ⟨congrArg vv (segF_no2 (a := (x1, x2, x3)) (b := (y1, y2, y3)) (p := (z1, z2, z3)) (by assumption) (by assumption)).symm, hw.below⟩)
      | (exact ⟨congrArg vv (segF_yes (a := (x1, x2, x3)) (b := (y1, y2, y3)) (p := (z1, z2, z3)) (by assumption) (by assumption)).symm, hw.below⟩)
  replace h3 := bnot_f h3
  refine V.skip ?_
  refine VE.then_wp ?_
  refine V.seq ?_
  refine V.region ?_
  refine VL.q (.inl rfl) rfl (by decide) (yq_loadS rfl Try.underlying32 sz32_Vec rfl zz0 rfl rfl rfl) ?_
  refine VL.q (.inl rfl) rfl (by decide) (yq_loadS rfl Try.underlying32 sz32_Vec rfl zz0 rfl rfl rfl) ?_
  refine VL.q (.inl rfl) rfl (by decide) (yq_callf rfl known63_Vec (.cons rfl (.cons rfl .nil)) (fun w hw => c_cross3)) ?_
  refine VL.r (.inl rfl) rfl (by decide) (yr_move rfl rfl) ?_
  refine VL.q (.inl rfl) rfl (by decide) (yq_callf rfl known46_Vec (.cons rfl (.cons rfl .nil)) (fun w hw => c_scale3)) ?_
  refine VL.s (.inl rfl) rfl (yc_store rfl sz32_Vec rfl rfl zz3 (.inr ⟨rfl, rfl⟩) rfl zz4 (by decide) rfl) ?_
  rintro ⟨⟩
  refine VL.nil ?_
  refine VE.then_wp ?_
  refine V.ret ?_
  refine retC rfl (rv_cellS rfl Try.underlying32 sz32_Vec zz0 rfl rfl rfl) (by nofun) (fun w1 hw => ?_)
  first
    | (exact ⟨congrArg vv (segF_no1 (a := (x1, x2, x3)) (b := (y1, y2, y3)) (p := (z1, z2, z3)) (by assumption)).symm, hw.below⟩)
    | (exact ⟨congrArg vv (segF_no2 (a := (x1, x2, x3)) (b := (y1, y2, y3)) (p := (z1, z2, z3)) (by assumption) (by assumption)).symm, hw.below⟩)
    | (exact ⟨congrArg vv (segF_yes (a := (x1, x2, x3)) (b := (y1, y2, y3)) (p := (z1, z2, z3)) (by assumption) (by assumption)).symm, hw.below⟩)
end Go.Proofs.Ytfkblhlkeglilaa

namespace Go.Proofs.Ytfkblhlkeglilaa
open Go.RowKit
set_option linter.unusedVariables false
set_option linter.unusedSimpArgs false
set_option maxRecDepth 20000
theorem sz32_Wire : (Try.prog.info? 32).map (·.size) = some 3 := by kernel_rfl
theorem known62_Wire : Known Try.prog 62 := Known.mk' Try.func62 (by kernel_rfl)
theorem sz27_Wire : (Try.prog.info? 27).map (·.size) = some 3 := by kernel_rfl
theorem known54_Wire : Known Try.prog 54 := Known.mk' Try.func54 (by kernel_rfl)
theorem known24_Wire : Known Try.prog 24 := Known.mk' Try.func24 (by kernel_rfl)
theorem known58_Wire : Known Try.prog 58 := Known.mk' Try.func58 (by kernel_rfl)
theorem known57_Wire : Known Try.prog 57 := Known.mk' Try.func57 (by kernel_rfl)
theorem sz24_Wire : (Try.prog.info? 24).map (·.size) = some 1 := by kernel_rfl
theorem fb24_Wire : flatB Try.prog 24 = true := by kernel_rfl
theorem known53_Wire : Known Try.prog 53 := Known.mk' Try.func53 (by kernel_rfl)
theorem sz25_Wire : (Try.prog.info? 25).map (·.size) = some 1 := by kernel_rfl
theorem fb25_Wire : flatB Try.prog 25 = true := by kernel_rfl
theorem known20_Wire : Known Try.prog 20 := Known.mk' Try.func20 (by kernel_rfl)
theorem known39_Wire : Known Try.prog 39 := Known.mk' Try.func39 (by kernel_rfl)
theorem known41_Wire : Known Try.prog 41 := Known.mk' Try.func41 (by kernel_rfl)
theorem known40_Wire : Known Try.prog 40 := Known.mk' Try.func40 (by kernel_rfl)
attribute [local irreducible] fop fcmp fconv sqrt32 fneg
theorem c_idxV {w : World} {a : Option Addr} {c : Nat} {vs : List V3} {g : FuncId} {cs : Array Value} {p : Nat → Bool} (hA : Cl w a (vl vs)) (hg : Known Try.prog g) (hF : ∀ w', Below w.heap.size w w' → ∀ k, k < vs.length → Pure Try.prog g ([vv (vs.getD k z3)] ++ cs.toList.map cn) w' (.bool (p k))) (hn : vs.length ≤ 1050000) : Pure Try.prog 62 [.slice a vs.length c, .func (.func g) #[] cs] w (.int .i64 (idxI p vs.length)) := by
  refine Pure.enter Try.func62 rfl Try.ntmps62 (Nat.le_of_ble_eq_true rfl) ?_
  refine V.seq ?_
  refine V.region ?_
  refine VL.r (.inl rfl) rfl (by decide) (yr_assign (u := .int .i64 0) rfl rfl) ?_
  refine VL.nil ?_
  refine VE.then_wp ?_
  refine V.seq ?_
  refine V.seq ?_
  refine V.region ?_
  refine VL.r (.inl rfl) rfl (by decide) (yr_move rfl rfl) ?_
  refine VL.r (.inl rfl) rfl (by decide) (yr_len rfl Try.underlying24 rfl) ?_
  refine VL.r (.inl rfl) rfl (by decide) (yr_move (u := .int .i64 0) rfl rfl) ?_
  refine VL.nil ?_
  refine VE.then_wp ?_
  refine V.block ?_
  refine V.loops (G := Nat) [(0, _), (1, _), (7, _)] (fun (k : Nat) => k ≤ vs.length ∧ ∀ j, j < k → p j = false) (fun (k : Nat) => [(8, .int .i64 (k : Int))]) (fun (k : Nat) => vs.length - k) 0 (.cons rfl (.cons rfl (.cons rfl .nil))) (.cons rfl .nil) ?_ ?_
  · exact (by exact ⟨by omega, fun j h => by omega⟩)
  rintro k ⟨hk, hI⟩
  show V _ _ _ _ ([(8, .int .i64 (k : Int))] ++ [(0, _), (1, _), (7, _)]) _ _
  refine V.seq ?_
  refine V.region ?_
  refine VL.r (.inl rfl) rfl (by decide) (yr_icmp rfl (.inr (.inr (.inl rfl))) rfl rfl) ?_
  refine VL.nil ?_
  refine VE.then_wp ?_
  refine V.seq ?_
  refine V.cond rfl (fun h1 => ?_) (fun h1 => ?_)
  · skip
    replace h1 := ic_lss h1
    refine V.skip ?_
    refine VE.then_wp ?_
    refine V.seq ?_
    refine V.block ?_
    refine V.seq ?_
    refine V.region ?_
    refine VL.r (.inl rfl) rfl (by decide) (yr_move rfl rfl) ?_
    refine VL.r (.inl rfl) rfl (by decide) (yr_assign rfl rfl) ?_
    refine VL.nil ?_
    refine VE.then_wp ?_
    refine V.seq ?_
    refine V.region ?_
    refine VL.r (.inl rfl) rfl (by decide) (yr_move rfl rfl) ?_
    refine VL.r (.inl rfl) rfl (by decide) (yr_move rfl rfl) ?_
    refine VL.r (.inl rfl) rfl (by decide) (yr_move rfl rfl) ?_
    refine VL.q (.inl rfl) rfl (by decide) (yq_idxN (k := k) rfl Try.underlying24 sz32_Wire rfl rfl zz0 zz6 (by exact vl_length _) (by decide) (by omega)) ?_
    refine VL.q (.inl rfl) rfl (by decide) (yq_loadV rfl Try.underlying32 sz32_Wire rfl zz0 (by omega)) ?_
    refine VL.q (.inl rfl) rfl (by decide) (yq_call rfl hg rfl (.cons rfl .nil) (fun w hw => hF w hw.below k (by omega))) ?_
    refine VL.nil ?_
    refine VE.then_wp ?_
    refine V.cond rfl (fun h2 => ?_) (fun h2 => ?_)
    · skip
      refine V.seq ?_
      refine V.region ?_
      refine VL.r (.inl rfl) rfl (by decide) (yr_move rfl rfl) ?_
      refine VL.r (.inl rfl) rfl (by decide) (yr_assign rfl rfl) ?_
      refine VL.nil ?_
      refine VE.then_wp ?_
      refine V.ret ?_
      refine VE.block_ret ?_
      refine VE.then_ret ?_
      refine VE.then_ret ?_
      refine VE.block_ret ?_
      refine VE.then_ret ?_
      refine ret1 rfl rfl (fun w1 hw => ?_)
      exact ⟨by rw [idxI_of hI (by assumption) (by omega)], hw.below⟩
    refine V.skip ?_
    refine VE.block_normal ?_
    refine VE.then_wp ?_
    refine V.region ?_
    refine VL.r (.inl rfl) rfl (by decide) (yr_int rfl rfl rfl (.inl ⟨rfl, wrap_in (by omega)⟩)) ?_
    refine VL.r (.inl rfl) rfl (by decide) (yr_move rfl rfl) ?_
    refine VL.nil ?_
    refine VE.round (k + 1) ?_ ?_ ?_ ?_ ?_
    · exact (.cons rfl .nil)
    · exact (.cons rfl (.cons rfl (.cons rfl .nil)))
    · exact (fun w hw => hw)
    · exact ⟨by omega, fun j hj => by rcases Nat.lt_or_ge j k with h | h; exact hI j h; obtain rfl : j = k := (by omega); assumption⟩
    · (try dsimp only); omega
  replace h1 := ic_lss' h1
  refine V.exit ?_
  refine VE.then_exit ?_
  refine VE.then_exit ?_
  refine VE.block_here ?_
  refine VE.then_wp ?_
  refine V.seq ?_
  refine V.region ?_
  refine VL.r (.inl rfl) rfl (by decide) (yr_assign (u := .int .i64 (-1)) rfl rfl) ?_
  refine VL.nil ?_
  refine VE.then_wp ?_
  refine V.ret ?_
  refine ret1 rfl rfl (fun w1 hw => ?_)
  obtain rfl : k = vs.length := by omega
  exact ⟨by rw [idxI_no hI], hw.below⟩
theorem c_hasV {w : World} {a : Option Addr} {c : Nat} {vs : List V3} {g : FuncId} {cs : Array Value} {p : Nat → Bool} (hA : Cl w a (vl vs)) (hg : Known Try.prog g) (hF : ∀ w', Below w.heap.size w w' → ∀ k, k < vs.length → Pure Try.prog g ([vv (vs.getD k z3)] ++ cs.toList.map cn) w' (.bool (p k))) (hn : vs.length ≤ 1050000) : Pure Try.prog 57 [.slice a vs.length c, .func (.func g) #[] cs] w (.bool (decide (0 ≤ idxI p vs.length))) := by
  refine Pure.enter Try.func57 rfl Try.ntmps57 (Nat.le_of_ble_eq_true rfl) ?_
  refine V.seq ?_
  refine V.region ?_
  refine VL.r (.inl rfl) rfl (by decide) (yr_assign (u := .bool false) rfl rfl) ?_
  refine VL.nil ?_
  refine VE.then_wp ?_
  refine V.seq ?_
  refine V.region ?_
  refine VL.r (.inl rfl) rfl (by decide) (yr_move rfl rfl) ?_
  refine VL.r (.inl rfl) rfl (by decide) (yr_move rfl rfl) ?_
  refine VL.q (.inl rfl) rfl (by decide) (yq_callf rfl known62_Wire (.cons rfl (.cons rfl .nil)) (fun w hw => (c_idxV zz2 hg (fun w1 hb => hF w1 (hw.below.trans (hb.mono hw.below.size))) (by omega)))) ?_
  refine VL.r (.inl rfl) rfl (by decide) (yr_icmp rfl (.inr (.inr (.inr (.inr (.inr rfl))))) rfl rfl) ?_
  refine VL.r (.inl rfl) rfl (by decide) (yr_assign rfl rfl) ?_
  refine VL.nil ?_
  refine VE.then_wp ?_
  refine V.ret ?_
  refine ret1 rfl rfl (fun w1 hw => ?_)
  exact ⟨rfl, hw.below⟩
theorem c_idxW {w : World} {a : Option Addr} {c : Nat} {f : Nat → Option Addr × Nat} {ws : List Wr} {g : FuncId} {cs : Array Value} {p : Nat → Bool} (hA : Cl w a (whd f ws)) (hg : Known Try.prog g) (hF : ∀ w', Below w.heap.size w w' → ∀ k, k < ws.length → Pure Try.prog g ([.agg #[.slice (f k).1 (ws.getD k zw).1.length (f k).2, .bool (ws.getD k zw).2.1, .float .f32 (ws.getD k zw).2.2]] ++ cs.toList.map cn) w' (.bool (p k))) (hn : ws.length ≤ 1050000) : Pure Try.prog 54 [.slice a ws.length c, .func (.func g) #[] cs] w (.int .i64 (idxI p ws.length)) := by
  refine Pure.enter Try.func54 rfl Try.ntmps54 (Nat.le_of_ble_eq_true rfl) ?_
  refine V.seq ?_
  refine V.region ?_
  refine VL.r (.inl rfl) rfl (by decide) (yr_assign (u := .int .i64 0) rfl rfl) ?_
  refine VL.nil ?_
  refine VE.then_wp ?_
  refine V.seq ?_
  refine V.seq ?_
  refine V.region ?_
  refine VL.r (.inl rfl) rfl (by decide) (yr_move rfl rfl) ?_
  refine VL.r (.inl rfl) rfl (by decide) (yr_len rfl Try.underlying30 rfl) ?_
  refine VL.r (.inl rfl) rfl (by decide) (yr_move (u := .int .i64 0) rfl rfl) ?_
  refine VL.nil ?_
  refine VE.then_wp ?_
  refine V.block ?_
  refine V.loops (G := Nat) [(0, _), (1, _), (7, _)] (fun (k : Nat) => k ≤ ws.length ∧ ∀ j, j < k → p j = false) (fun (k : Nat) => [(8, .int .i64 (k : Int))]) (fun (k : Nat) => ws.length - k) 0 (.cons rfl (.cons rfl (.cons rfl .nil))) (.cons rfl .nil) ?_ ?_
  · exact (by exact ⟨by omega, fun j h => by omega⟩)
  rintro k ⟨hk, hI⟩
  show V _ _ _ _ ([(8, .int .i64 (k : Int))] ++ [(0, _), (1, _), (7, _)]) _ _
  refine V.seq ?_
  refine V.region ?_
  refine VL.r (.inl rfl) rfl (by decide) (yr_icmp rfl (.inr (.inr (.inl rfl))) rfl rfl) ?_
  refine VL.nil ?_
  refine VE.then_wp ?_
  refine V.seq ?_
  refine V.cond rfl (fun h1 => ?_) (fun h1 => ?_)
  · skip
    replace h1 := ic_lss h1
    refine V.skip ?_
    refine VE.then_wp ?_
    refine V.seq ?_
    refine V.block ?_
    refine V.seq ?_
    refine V.region ?_
    refine VL.r (.inl rfl) rfl (by decide) (yr_move rfl rfl) ?_
    refine VL.r (.inl rfl) rfl (by decide) (yr_assign rfl rfl) ?_
    refine VL.nil ?_
    refine VE.then_wp ?_
    refine V.seq ?_
    refine V.region ?_
    refine VL.r (.inl rfl) rfl (by decide) (yr_move rfl rfl) ?_
    refine VL.r (.inl rfl) rfl (by decide) (yr_move rfl rfl) ?_
    refine VL.r (.inl rfl) rfl (by decide) (yr_move rfl rfl) ?_
    refine VL.q (.inl rfl) rfl (by decide) (yq_idxN (k := k) rfl Try.underlying30 sz27_Wire rfl rfl zz0 zz6 (by exact whd_length _ _) (by decide) (by omega)) ?_
    refine VL.q (.inl rfl) rfl (by decide) (yq_loadW rfl Try.underlying27 sz27_Wire rfl zz0 (by omega)) ?_
    refine VL.q (.inl rfl) rfl (by decide) (yq_call rfl hg rfl (.cons rfl .nil) (fun w hw => hF w hw.below k (by omega))) ?_
    refine VL.nil ?_
    refine VE.then_wp ?_
    refine V.cond rfl (fun h2 => ?_) (fun h2 => ?_)
    · skip
      refine V.seq ?_
      refine V.region ?_
      refine VL.r (.inl rfl) rfl (by decide) (yr_move rfl rfl) ?_
      refine VL.r (.inl rfl) rfl (by decide) (yr_assign rfl rfl) ?_
      refine VL.nil ?_
      refine VE.then_wp ?_
      refine V.ret ?_
      refine VE.block_ret ?_
      refine VE.then_ret ?_
      refine VE.then_ret ?_
      refine VE.block_ret ?_
      refine VE.then_ret ?_
      refine ret1 rfl rfl (fun w1 hw => ?_)
      exact ⟨by rw [idxI_of hI (by assumption) (by omega)], hw.below⟩
    refine V.skip ?_
    refine VE.block_normal ?_
    refine VE.then_wp ?_
    refine V.region ?_
    refine VL.r (.inl rfl) rfl (by decide) (yr_int rfl rfl rfl (.inl ⟨rfl, wrap_in (by omega)⟩)) ?_
    refine VL.r (.inl rfl) rfl (by decide) (yr_move rfl rfl) ?_
    refine VL.nil ?_
    refine VE.round (k + 1) ?_ ?_ ?_ ?_ ?_
    · exact (.cons rfl .nil)
    · exact (.cons rfl (.cons rfl (.cons rfl .nil)))
    · exact (fun w hw => hw)
    · exact ⟨by omega, fun j hj => by rcases Nat.lt_or_ge j k with h | h; exact hI j h; obtain rfl : j = k := (by omega); assumption⟩
    · (try dsimp only); omega
  replace h1 := ic_lss' h1
  refine V.exit ?_
  refine VE.then_exit ?_
  refine VE.then_exit ?_
  refine VE.block_here ?_
  refine VE.then_wp ?_
  refine V.seq ?_
  refine V.region ?_
  refine VL.r (.inl rfl) rfl (by decide) (yr_assign (u := .int .i64 (-1)) rfl rfl) ?_
  refine VL.nil ?_
  refine VE.then_wp ?_
  refine V.ret ?_
  refine ret1 rfl rfl (fun w1 hw => ?_)
  obtain rfl : k = ws.length := by omega
  exact ⟨by rw [idxI_no hI], hw.below⟩
theorem c_hasW {w : World} {a : Option Addr} {c : Nat} {f : Nat → Option Addr × Nat} {ws : List Wr} {g : FuncId} {cs : Array Value} {p : Nat → Bool} (hA : Cl w a (whd f ws)) (hg : Known Try.prog g) (hF : ∀ w', Below w.heap.size w w' → ∀ k, k < ws.length → Pure Try.prog g ([.agg #[.slice (f k).1 (ws.getD k zw).1.length (f k).2, .bool (ws.getD k zw).2.1, .float .f32 (ws.getD k zw).2.2]] ++ cs.toList.map cn) w' (.bool (p k))) (hn : ws.length ≤ 1050000) : Pure Try.prog 40 [.slice a ws.length c, .func (.func g) #[] cs] w (.bool (decide (0 ≤ idxI p ws.length))) := by
  refine Pure.enter Try.func40 rfl Try.ntmps40 (Nat.le_of_ble_eq_true rfl) ?_
  refine V.seq ?_
  refine V.region ?_
  refine VL.r (.inl rfl) rfl (by decide) (yr_assign (u := .bool false) rfl rfl) ?_
  refine VL.nil ?_
  refine VE.then_wp ?_
  refine V.seq ?_
  refine V.region ?_
  refine VL.r (.inl rfl) rfl (by decide) (yr_move rfl rfl) ?_
  refine VL.r (.inl rfl) rfl (by decide) (yr_move rfl rfl) ?_
  refine VL.q (.inl rfl) rfl (by decide) (yq_callf rfl known54_Wire (.cons rfl (.cons rfl .nil)) (fun w hw => (c_idxW zz2 hg (fun w1 hb => hF w1 (hw.below.trans (hb.mono hw.below.size))) (by omega)))) ?_
  refine VL.r (.inl rfl) rfl (by decide) (yr_icmp rfl (.inr (.inr (.inr (.inr (.inr rfl))))) rfl rfl) ?_
  refine VL.r (.inl rfl) rfl (by decide) (yr_assign rfl rfl) ?_
  refine VL.nil ?_
  refine VE.then_wp ?_
  refine V.ret ?_
  refine ret1 rfl rfl (fun w1 hw => ?_)
  exact ⟨rfl, hw.below⟩
theorem c_areFinV1 {w : World} {x1 x2 x3 : Nat} : Pure Try.prog 58 [vv (x1, x2, x3)] w (.bool (!fin3 (x1, x2, x3))) := by
  refine Pure.enter Try.func58 rfl Try.ntmps58 (Nat.le_of_ble_eq_true rfl) ?_
  refine V.seq ?_
  refine V.region ?_
  refine VL.new1 (.inl rfl) rfl (by decide) (yn_box rfl rfl (.inr ⟨rfl, rfl⟩)) ?_
  intro b1
  refine VL.r (.inl rfl) rfl (by decide) (yr_assign (u := .bool false) rfl rfl) ?_
  refine VL.nil ?_
  refine VE.then_wp ?_
  refine V.seq ?_
  refine V.region ?_
  refine VL.q (.inl rfl) rfl (by decide) (yq_loadS rfl Try.underlying32 sz32_Wire rfl zz0 rfl rfl rfl) ?_
  refine VL.q (.inl rfl) rfl (by decide) (yq_callf rfl known24_Wire (.cons rfl .nil) (fun w hw => c_fin3)) ?_
  refine VL.r (.inl rfl) rfl (by decide) (yr_not rfl rfl) ?_
  refine VL.r (.inl rfl) rfl (by decide) (yr_assign rfl rfl) ?_
  refine VL.nil ?_
  refine VE.then_wp ?_
  refine V.ret ?_
  refine ret1 rfl rfl (fun w1 hw => ?_)
  exact ⟨rfl, hw.below⟩
theorem c_areFinV {w : World} {a : Option Addr} {c : Nat} {vs : List V3} (hA : Cl w a (vl vs)) (hn : vs.length ≤ 1050000) : Pure Try.prog 53 [.slice a vs.length c] w (.bool (vs.all fin3)) := by
  refine Pure.enter Try.func53 rfl Try.ntmps53 (Nat.le_of_ble_eq_true rfl) ?_
  refine V.seq ?_
  refine V.region ?_
  refine VL.r (.inl rfl) rfl (by decide) (yr_assign (u := .bool false) rfl rfl) ?_
  refine VL.nil ?_
  refine VE.then_wp ?_
  refine V.seq ?_
  refine V.region ?_
  refine VL.r (.inl rfl) rfl (by decide) (yr_move rfl rfl) ?_
  refine VL.q (.inl rfl) rfl (by decide) (yq_callf rfl known57_Wire (.cons rfl (.cons rfl .nil)) (fun w hw => (c_hasV (p := fun k => !fin3 (vs.getD k z3)) zz2 known58_Wire (fun w1 _ k _ => c_areFinV1) (by omega)))) ?_
  refine VL.r (.inl rfl) rfl (by decide) (yr_not rfl rfl) ?_
  refine VL.r (.inl rfl) rfl (by decide) (yr_assign rfl rfl) ?_
  refine VL.nil ?_
  refine VE.then_wp ?_
  refine V.ret ?_
  refine ret1 rfl rfl (fun w1 hw => ?_)
  exact ⟨congrArg Value.bool (vall_idx fin3 vs), hw.below⟩
theorem c_implWire {w : World} {a : Option Addr} {c : Nat} {ps : List V3} {cl : Bool} {cur : Nat} (hA : Cl w a (vl ps)) (hn : ps.length ≤ 1050000) : Pure Try.prog 39 [.agg #[.slice a ps.length c, .bool cl, .float .f32 cur]] w (.bool (wireOk (ps, cl, cur))) := by
  refine Pure.enter Try.func39 rfl Try.ntmps39 (Nat.le_of_ble_eq_true rfl) ?_
  refine V.seq ?_
  refine V.region ?_
  refine VL.new1 (.inl rfl) rfl (by decide) (yn_box rfl rfl (.inr ⟨rfl, rfl⟩)) ?_
  intro b1
  refine VL.r (.inl rfl) rfl (by decide) (yr_assign (u := .bool false) rfl rfl) ?_
  refine VL.nil ?_
  refine VE.then_wp ?_
  refine V.seq ?_
  refine V.region ?_
  refine VL.r (.inl rfl) rfl (by decide) (yr_fieldAddr rfl Try.underlying27 rfl rfl sz24_Wire (by decide) rfl) ?_
  refine VL.q (.inl rfl) rfl (by decide) (yq_load rfl fb24_Wire rfl zz0 rfl) ?_
  refine VL.r (.inl rfl) rfl (by decide) (yr_len rfl Try.underlying24 rfl) ?_
  refine VL.r (.inl rfl) rfl (by decide) (yr_icmp rfl (.inr (.inr (.inr (.inr (.inr rfl))))) rfl rfl) ?_
  refine VL.r (.inl rfl) rfl (by decide) (yr_move rfl rfl) ?_
  refine VX.split 7 _ rfl (fun h1 => ?_) (fun h1 => ?_)
  · skip
    replace h1 := ic_geq h1
    refine VL.r (.inr ⟨_, _, _, rfl, rfl, rfl⟩) rfl (by decide) (yr_fieldAddr rfl Try.underlying27 rfl rfl sz24_Wire (by decide) rfl) ?_
    refine VL.q (.inr ⟨_, _, _, rfl, rfl, rfl⟩) rfl (by decide) (yq_load rfl fb24_Wire rfl zz0 rfl) ?_
    refine VL.r (.inr ⟨_, _, _, rfl, rfl, rfl⟩) rfl (by decide) (yr_len rfl Try.underlying24 rfl) ?_
    refine VL.r (.inr ⟨_, _, _, rfl, rfl, rfl⟩) rfl (by decide) (yr_icmp rfl (.inr (.inr (.inr (.inl rfl)))) rfl rfl) ?_
    refine VL.r (.inl rfl) rfl (by decide) (yr_pick_t rfl rfl rfl) ?_
    refine VL.r (.inl rfl) rfl (by decide) (yr_move rfl rfl) ?_
    refine VX.split 13 _ rfl (fun h2 => ?_) (fun h2 => ?_)
    · skip
      replace h2 := ic_leq h2
      refine VL.r (.inr ⟨_, _, _, rfl, rfl, rfl⟩) rfl (by decide) (yr_fieldAddr rfl Try.underlying27 rfl rfl sz24_Wire (by decide) rfl) ?_
      refine VL.q (.inr ⟨_, _, _, rfl, rfl, rfl⟩) rfl (by decide) (yq_load rfl fb24_Wire rfl zz0 rfl) ?_
      refine VL.q (.inr ⟨_, _, _, rfl, rfl, rfl⟩) rfl (by decide) (yq_callf rfl known53_Wire (.cons rfl .nil) (fun w hw => (c_areFinV zz2 (by omega)))) ?_
      refine VL.r (.inl rfl) rfl (by decide) (yr_pick_t rfl rfl rfl) ?_
      refine VL.r (.inl rfl) rfl (by decide) (yr_move rfl rfl) ?_
      refine VX.split 18 _ rfl (fun h3 => ?_) (fun h3 => ?_)
      · skip
        refine VL.r (.inr ⟨_, _, _, rfl, rfl, rfl⟩) rfl (by decide) (yr_fieldAddr rfl Try.underlying27 rfl rfl sz25_Wire (by decide) rfl) ?_
        refine VL.q (.inr ⟨_, _, _, rfl, rfl, rfl⟩) rfl (by decide) (yq_load rfl fb25_Wire rfl zz0 rfl) ?_
        refine VL.q (.inr ⟨_, _, _, rfl, rfl, rfl⟩) rfl (by decide) (yq_callf rfl known20_Wire (.cons rfl .nil) (fun w hw => c_IsFinite _)) ?_
        refine VL.r (.inl rfl) rfl (by decide) (yr_pick_t rfl rfl rfl) ?_
        refine VL.r (.inl rfl) rfl (by decide) (yr_assign rfl rfl) ?_
        refine VL.nil ?_
        refine VE.then_wp ?_
        refine V.ret ?_
        refine ret1 rfl rfl (fun w1 hw => ?_)
        first
          | exact ⟨congrArg Value.bool (wire_no1 (by omega)), hw.below⟩
          | exact ⟨congrArg Value.bool (wire_no2 (by assumption)), hw.below⟩
          | exact ⟨congrArg Value.bool (wire_yes (by omega) (by assumption)), hw.below⟩
      refine VL.no rfl rfl rfl rfl rfl (by decide) ?_
      refine VL.no rfl rfl rfl rfl rfl (by decide) ?_
      refine VL.no rfl rfl rfl rfl rfl (by decide) ?_
      refine VL.r (.inl rfl) rfl (by decide) (yr_pick_f (u := .bool false) rfl rfl rfl) ?_
      refine VL.r (.inl rfl) rfl (by decide) (yr_assign rfl rfl) ?_
      refine VL.nil ?_
      refine VE.then_wp ?_
      refine V.ret ?_
      refine ret1 rfl rfl (fun w1 hw => ?_)
      first
        | exact ⟨congrArg Value.bool (wire_no1 (by omega)), hw.below⟩
        | exact ⟨congrArg Value.bool (wire_no2 (by assumption)), hw.below⟩
        | exact ⟨congrArg Value.bool (wire_yes (by omega) (by assumption)), hw.below⟩
    replace h2 := ic_leq' h2
    refine VL.no rfl rfl rfl rfl rfl (by decide) ?_
    refine VL.no rfl rfl rfl rfl rfl (by decide) ?_
    refine VL.no rfl rfl rfl rfl rfl (by decide) ?_
    refine VL.r (.inl rfl) rfl (by decide) (yr_pick_f (u := .bool false) rfl rfl rfl) ?_
    refine VL.r (.inl rfl) rfl (by decide) (yr_move rfl rfl) ?_
    refine VL.no rfl rfl rfl rfl rfl (by decide) ?_
    refine VL.no rfl rfl rfl rfl rfl (by decide) ?_
    refine VL.no rfl rfl rfl rfl rfl (by decide) ?_
    refine VL.r (.inl rfl) rfl (by decide) (yr_pick_f (u := .bool false) rfl rfl rfl) ?_
    refine VL.r (.inl rfl) rfl (by decide) (yr_assign rfl rfl) ?_
    refine VL.nil ?_
    refine VE.then_wp ?_
    refine V.ret ?_
    refine ret1 rfl rfl (fun w1 hw => ?_)
    first
      | exact ⟨congrArg Value.bool (wire_no1 (by omega)), hw.below⟩
      | exact ⟨congrArg Value.bool (wire_no2 (by assumption)), hw.below⟩
      | exact ⟨congrArg Value.bool (wire_yes (by omega) (by assumption)), hw.below⟩
  replace h1 := ic_geq' h1
  refine VL.no rfl rfl rfl rfl rfl (by decide) ?_
  refine VL.no rfl rfl rfl rfl rfl (by decide) ?_
  refine VL.no rfl rfl rfl rfl rfl (by decide) ?_
  refine VL.no rfl rfl rfl rfl rfl (by decide) ?_
  refine VL.r (.inl rfl) rfl (by decide) (yr_pick_f (u := .bool false) rfl rfl rfl) ?_
  refine VL.r (.inl rfl) rfl (by decide) (yr_move rfl rfl) ?_
  refine VL.no rfl rfl rfl rfl rfl (by decide) ?_
  refine VL.no rfl rfl rfl rfl rfl (by decide) ?_
  refine VL.no rfl rfl rfl rfl rfl (by decide) ?_
  refine VL.r (.inl rfl) rfl (by decide) (yr_pick_f (u := .bool false) rfl rfl rfl) ?_
  refine VL.r (.inl rfl) rfl (by decide) (yr_move rfl rfl) ?_
  refine VL.no rfl rfl rfl rfl rfl (by decide) ?_
  refine VL.no rfl rfl rfl rfl rfl (by decide) ?_
  refine VL.no rfl rfl rfl rfl rfl (by decide) ?_
  refine VL.r (.inl rfl) rfl (by decide) (yr_pick_f (u := .bool false) rfl rfl rfl) ?_
  refine VL.r (.inl rfl) rfl (by decide) (yr_assign rfl rfl) ?_
  refine VL.nil ?_
  refine VE.then_wp ?_
  refine V.ret ?_
  refine ret1 rfl rfl (fun w1 hw => ?_)
  first
    | exact ⟨congrArg Value.bool (wire_no1 (by omega)), hw.below⟩
    | exact ⟨congrArg Value.bool (wire_no2 (by assumption)), hw.below⟩
    | exact ⟨congrArg Value.bool (wire_yes (by omega) (by assumption)), hw.below⟩
theorem c_areW1 {w : World} {a : Option Addr} {c : Nat} {ps : List V3} {cl : Bool} {cur : Nat} (hA : Cl w a (vl ps)) (hn : ps.length ≤ 1050000) : Pure Try.prog 41 [.agg #[.slice a ps.length c, .bool cl, .float .f32 cur]] w (.bool (!wireOk (ps, cl, cur))) := by
  refine Pure.enter Try.func41 rfl Try.ntmps41 (Nat.le_of_ble_eq_true rfl) ?_
  refine V.seq ?_
  refine V.region ?_
  refine VL.new1 (.inl rfl) rfl (by decide) (yn_box rfl rfl (.inr ⟨rfl, rfl⟩)) ?_
  intro b1
  refine VL.r (.inl rfl) rfl (by decide) (yr_assign (u := .bool false) rfl rfl) ?_
  refine VL.nil ?_
  refine VE.then_wp ?_
  refine V.seq ?_
  refine V.region ?_
  refine VL.q (.inl rfl) rfl (by decide) (yq_loadS rfl Try.underlying27 sz27_Wire rfl zz0 rfl rfl rfl) ?_
  refine VL.q (.inl rfl) rfl (by decide) (yq_callf rfl known39_Wire (.cons rfl .nil) (fun w hw => (c_implWire zz2 (by omega)))) ?_
  refine VL.r (.inl rfl) rfl (by decide) (yr_not rfl rfl) ?_
  refine VL.r (.inl rfl) rfl (by decide) (yr_assign rfl rfl) ?_
  refine VL.nil ?_
  refine VE.then_wp ?_
  refine V.ret ?_
  refine ret1 rfl rfl (fun w1 hw => ?_)
  exact ⟨rfl, hw.below⟩
theorem c_implAre {w : World} {a : Option Addr} {c : Nat} {f : Nat → Option Addr × Nat} {ws : List Wr} (hA : Cl w a (whd f ws)) (hR : WRws w f ws) (hn : wbulk ws ≤ 1050000) : Pure Try.prog 23 [.slice a ws.length c] w (.bool (wiresOk ws)) := by
  refine Pure.enter Try.func23 rfl Try.ntmps23 (Nat.le_of_ble_eq_true rfl) ?_
  have hwl : ws.length ≤ wbulk ws := by unfold wbulk; omega
  have hrw : ∀ k, k < ws.length → (ws.getD k zw).1.length ≤ 1050000 := fun k hk => by have := wbulk_row hk; omega
  refine V.seq ?_
  refine V.region ?_
  refine VL.r (.inl rfl) rfl (by decide) (yr_assign (u := .bool false) rfl rfl) ?_
  refine VL.nil ?_
  refine VE.then_wp ?_
  refine V.seq ?_
  refine V.region ?_
  refine VL.r (.inl rfl) rfl (by decide) (yr_move rfl rfl) ?_
  refine VL.r (.inl rfl) rfl (by decide) (yr_len rfl Try.underlying30 rfl) ?_
  refine VL.r (.inl rfl) rfl (by decide) (yr_icmp rfl (.inr (.inr (.inr (.inl rfl)))) rfl rfl) ?_
  refine VL.r (.inl rfl) rfl (by decide) (yr_move rfl rfl) ?_
  refine VX.split 6 _ rfl (fun h1 => ?_) (fun h1 => ?_)
  · skip
    replace h1 := ic_leq h1
    refine VL.r (.inr ⟨_, _, _, rfl, rfl, rfl⟩) rfl (by decide) (yr_move rfl rfl) ?_
    refine VL.q (.inr ⟨_, _, _, rfl, rfl, rfl⟩) rfl (by decide) (yq_callf rfl known40_Wire (.cons rfl (.cons rfl .nil)) (fun w hw => (c_hasW (p := fun k => !wireOk (ws.getD k zw)) zz2 known41_Wire (fun w1 hb k hk => c_areW1 ((hR.root hw k hk).below hb) (hrw k hk)) (by omega)))) ?_
    refine VL.r (.inr ⟨_, _, _, rfl, rfl, rfl⟩) rfl (by decide) (yr_not rfl rfl) ?_
    refine VL.r (.inl rfl) rfl (by decide) (yr_pick_t rfl rfl rfl) ?_
    refine VL.r (.inl rfl) rfl (by decide) (yr_assign rfl rfl) ?_
    refine VL.nil ?_
    refine VE.then_wp ?_
    refine V.ret ?_
    refine ret1 rfl rfl (fun w1 hw => ?_)
    first
      | exact ⟨congrArg Value.bool (by rw [wiresOk, decide_eq_true (show ws.length ≤ 8 by omega), Bool.true_and]; exact wall_idx wireOk ws), hw.below⟩
      | exact ⟨congrArg Value.bool (by rw [wiresOk, decide_eq_false (show ¬ ws.length ≤ 8 by omega)]; rfl), hw.below⟩
  replace h1 := ic_leq' h1
  refine VL.no rfl rfl rfl rfl rfl (by decide) ?_
  refine VL.no rfl rfl rfl rfl rfl (by decide) ?_
  refine VL.no rfl rfl rfl rfl rfl (by decide) ?_
  refine VL.r (.inl rfl) rfl (by decide) (yr_pick_f (u := .bool false) rfl rfl rfl) ?_
  refine VL.r (.inl rfl) rfl (by decide) (yr_assign rfl rfl) ?_
  refine VL.nil ?_
  refine VE.then_wp ?_
  refine V.ret ?_
  refine ret1 rfl rfl (fun w1 hw => ?_)
  first
    | exact ⟨congrArg Value.bool (by rw [wiresOk, decide_eq_true (show ws.length ≤ 8 by omega), Bool.true_and]; exact wall_idx wireOk ws), hw.below⟩
    | exact ⟨congrArg Value.bool (by rw [wiresOk, decide_eq_false (show ¬ ws.length ≤ 8 by omega)]; rfl), hw.below⟩
end Go.Proofs.Ytfkblhlkeglilaa

namespace Go.Proofs.Ytfkblhlkeglilaa
open Go.RowKit
set_option linter.unusedVariables false
set_option linter.unusedSimpArgs false
set_option maxRecDepth 20000
theorem elt88_Field : Elt Try.prog 88 [Value.float .f32 0, Value.float .f32 0, Value.float .f32 0, Value.float .f32 0, Value.float .f32 0, Value.float .f32 0] 24 := Elt.mk' (by kernel_rfl) (by decide)
theorem sz24_Field : (Try.prog.info? 24).map (·.size) = some 1 := by kernel_rfl
theorem fb24_Field : flatB Try.prog 24 = true := by kernel_rfl
theorem mixed_Field : Try.prog.follows .mixedOrders = true := by kernel_rfl
theorem sz32_Field : (Try.prog.info? 32).map (·.size) = some 3 := by kernel_rfl
theorem lay88_Field : Lay Try.prog 88 [Value.float .f32 0, Value.float .f32 0, Value.float .f32 0, Value.float .f32 0, Value.float .f32 0, Value.float .f32 0] [(0, 3), (3, 3)] := Lay.mk' (by kernel_rfl) (by kernel_rfl)
theorem sz4_Field : (Try.prog.info? 4).map (·.size) = some 1 := by kernel_rfl
theorem fb4_Field : flatB Try.prog 4 = true := by kernel_rfl
theorem zero32_Field : (Try.prog.info? 32).bind (·.zero) = some (Value.agg #[Value.float .f32 0, Value.float .f32 0, Value.float .f32 0]) := by kernel_rfl
theorem lay32_Field : Lay Try.prog 32 [Value.float .f32 0, Value.float .f32 0, Value.float .f32 0] [(0, 1), (1, 1), (2, 1)] := Lay.mk' (by kernel_rfl) (by kernel_rfl)
theorem sz27_Field : (Try.prog.info? 27).map (·.size) = some 3 := by kernel_rfl
theorem known59_Field : Known Try.prog 59 := Known.mk' Try.func59 (by kernel_rfl)
theorem sz88_Field : (Try.prog.info? 88).map (·.size) = some 6 := by kernel_rfl
theorem zero88_Field : (Try.prog.info? 88).bind (·.zero) = some (Value.agg #[Value.float .f32 0, Value.float .f32 0, Value.float .f32 0, Value.float .f32 0, Value.float .f32 0, Value.float .f32 0]) := by kernel_rfl
theorem known60_Field : Known Try.prog 60 := Known.mk' Try.func60 (by kernel_rfl)
theorem known45_Field : Known Try.prog 45 := Known.mk' Try.func45 (by kernel_rfl)
theorem sz25_Field : (Try.prog.info? 25).map (·.size) = some 1 := by kernel_rfl
theorem fb25_Field : flatB Try.prog 25 = true := by kernel_rfl
theorem known46_Field : Known Try.prog 46 := Known.mk' Try.func46 (by kernel_rfl)
theorem zero27_Field : (Try.prog.info? 27).bind (·.zero) = some (Value.agg #[Value.slice none 0 0, Value.bool false, Value.float .f32 0]) := by kernel_rfl
theorem known55_Field : Known Try.prog 55 := Known.mk' Try.func55 (by kernel_rfl)
theorem known24_Field : Known Try.prog 24 := Known.mk' Try.func24 (by kernel_rfl)
attribute [local irreducible] fop fcmp fconv sqrt32 fneg segF
theorem c_segments {w : World} {a : Option Addr} {c : Nat} {ps : List V3} {cl : Bool} {cur : Nat} (hA : Cl w a (vl ps)) (hlo : 2 ≤ ps.length) (hhi : ps.length ≤ 48) : New Try.prog 59 [.agg #[.slice a ps.length c, .bool cl, .float .f32 cur]] w (fun p : Option Addr × Nat => .slice p.1 (segN (ps, cl, cur)) p.2) (fun p => [⟨p.1, sl (segK (ps, cl, cur) (segN (ps, cl, cur))), p.2 * 6, 88⟩]) := by
  refine New.enter Try.func59 rfl Try.ntmps59 (Nat.le_of_ble_eq_true rfl) ?_
  refine V.seq ?_
  refine V.region ?_
  refine VL.new1 (.inl rfl) rfl (by decide) (yn_box rfl rfl (.inr ⟨rfl, rfl⟩)) ?_
  intro b1
  refine VL.r (.inl rfl) rfl (by decide) (yr_assign (u := .slice none 0 0) rfl rfl) ?_
  refine VL.nil ?_
  refine VE.then_wp ?_
  refine V.seq ?_
  refine V.region ?_
  refine VL.new1 (.inl rfl) rfl (by decide) (yn_buildSlice rfl Try.underlying85 elt88_Field rfl (by decide) .nil (by first | (simp; done) | (simp [vv]; done)) rfl rfl) ?_
  intro b6
  refine VL.r (.inl rfl) rfl (by decide) (yr_assign rfl rfl) ?_
  refine VL.nil ?_
  refine VE.then_wp ?_
  refine V.seq ?_
  refine V.region ?_
  refine VL.r (.inl rfl) rfl (by decide) (yr_fieldAddr rfl Try.underlying27 rfl rfl sz24_Field (by decide) rfl) ?_
  refine VL.q (.inl rfl) rfl (by decide) (yq_load rfl fb24_Field rfl zz0 rfl) ?_
  refine VL.r (.inl rfl) rfl (by decide) (yr_len rfl Try.underlying24 rfl) ?_
  refine VL.r (.inl rfl) rfl (by decide) (yr_assign rfl rfl) ?_
  refine VL.nil ?_
  refine VE.then_wp ?_
  refine V.seq ?_
  refine V.seq ?_
  refine V.region ?_
  refine VL.r (.inl rfl) rfl (by decide) (yr_assign (u := .int .i64 1) rfl rfl) ?_
  refine VL.nil ?_
  refine VE.then_wp ?_
  refine V.block ?_
  refine V.loopc (G := Nat × (Option Addr) × Nat) [(1, _), (4, _)] (fun ⟨i, a3, c3⟩ => i + 1 ≤ ps.length) (fun ⟨i, a3, c3⟩ => [⟨a3, sl (segK (ps, cl, cur) i), c3 * 6, 88⟩, ⟨some ⟨b1, 0, none⟩, [.slice a ps.length c, .bool cl, .float .f32 cur], 3, 27⟩]) (fun ⟨i, a3, c3⟩ => [(3, .slice a3 i c3), (5, .int .i64 ((i + 1 : Nat) : Int))]) (fun ⟨i, a3, c3⟩ => ps.length - i) (0, some ⟨b6, 0, none⟩, 0) (.cons rfl (.cons rfl .nil)) (.cons rfl (.cons (congrArg (fun i => some (Value.int .i64 i)) (by omega)) .nil)) ?_ ?_ ?_
  · exact (fun w hw => hw)
  · exact (by omega)
  rintro ⟨i, a3, c3⟩ hi
  show V _ _ _ [⟨a3, sl (segK (ps, cl, cur) i), c3 * 6, 88⟩, ⟨some ⟨b1, 0, none⟩, [.slice a ps.length c, .bool cl, .float .f32 cur], 3, 27⟩] ([(3, .slice a3 i c3), (5, .int .i64 ((i + 1 : Nat) : Int))] ++ [(1, _), (4, _)]) _ _
  refine V.seq ?_
  refine V.seq ?_
  refine V.region ?_
  refine VL.r (.inl rfl) rfl (by decide) (yr_move rfl rfl) ?_
  refine VL.r (.inl rfl) rfl (by decide) (yr_move rfl rfl) ?_
  refine VL.r (.inl rfl) rfl (by decide) (yr_icmp rfl (.inr (.inr (.inl rfl))) rfl rfl) ?_
  refine VL.nil ?_
  refine VE.then_wp ?_
  refine V.cond rfl (fun h1 => ?_) (fun h1 => ?_)
  · skip
    replace h1 := ic_lss h1
    refine V.skip ?_
    refine VE.then_wp ?_
    refine V.seq ?_
    refine V.block ?_
    refine V.draw [(0, 0), (1, 0), (2, 0), (3, 0), (4, 0), (5, 0), (6, 0), (7, 0), (8, 0), (9, 0), (10, 0), (11, 0), (12, 0), (13, 1), (14, 3), (15, 0)] mixed_Field (by kernel_rfl) (by intro j o hj; simp at hj) ?_
    refine SW.r rfl (.inl rfl) rfl (by decide) (yr_move rfl rfl) ?_
    refine SW.r rfl (.inl rfl) rfl (by decide) (yr_fieldAddr rfl Try.underlying27 rfl rfl sz24_Field (by decide) rfl) ?_
    refine SW.q rfl (.inl rfl) rfl (by decide) (yq_load rfl fb24_Field rfl zz0 rfl) ?_
    refine SW.r rfl (.inl rfl) rfl (by decide) (yr_move rfl rfl) ?_
    refine SW.r rfl (.inl rfl) rfl (by decide) (yr_int rfl rfl rfl (.inr (.inl ⟨rfl, wrap_in (by omega)⟩))) ?_
    refine SW.q rfl (.inl rfl) rfl (by decide) (yq_idxN (k := i) rfl Try.underlying24 sz32_Field rfl rfl zz0 zz6 (by exact vl_length _) (by decide) (by omega)) ?_
    refine SW.q rfl (.inl rfl) rfl (by decide) (yq_loadV rfl Try.underlying32 sz32_Field rfl zz0 (by omega)) ?_
    refine SW.r rfl (.inl rfl) rfl (by decide) (yr_fieldAddr rfl Try.underlying27 rfl rfl sz24_Field (by decide) rfl) ?_
    refine SW.q rfl (.inl rfl) rfl (by decide) (yq_load rfl fb24_Field rfl zz0 rfl) ?_
    refine SW.r rfl (.inl rfl) rfl (by decide) (yr_move rfl rfl) ?_
    refine SW.q rfl (.inl rfl) rfl (by decide) (yq_idxN (k := (i + 1)) rfl Try.underlying24 sz32_Field rfl rfl zz0 zz6 (by exact vl_length _) (by decide) (by omega)) ?_
    refine SW.q rfl (.inl rfl) rfl (by decide) (yq_loadV rfl Try.underlying32 sz32_Field rfl zz0 (by omega)) ?_
    refine SW.r rfl (.inl rfl) rfl (by decide) (yr_build rfl lay88_Field rfl (.cons rfl (.cons rfl .nil)) zz7 rfl) ?_
    refine SW.new1 rfl (.inl rfl) rfl (by decide) (yn_buildSlice rfl Try.underlying85 elt88_Field rfl (by decide) (.cons rfl .nil) (by first | (simp; done) | (simp [vv]; done)) rfl rfl) ?_
    intro b28
    refine SW.c rfl (.inl rfl) rfl (by decide) (yc_appendz 6 rfl rfl Try.underlying85 elt88_Field rfl rfl zz3 zz0 rfl (by rw [sl_length, segK_length]) rfl (sl_scal _) rfl (by omega) (by omega)) ?_
    rintro ⟨a29, c29⟩
    refine SW.r rfl (.inl rfl) rfl (by decide) (yr_assign rfl rfl) ?_
    refine SW.done ?_
    refine VE.block_normal ?_
    refine VE.then_wp ?_
    refine V.region ?_
    refine VL.r (.inl rfl) rfl (by decide) (yr_move rfl rfl) ?_
    refine VL.r (.inl rfl) rfl (by decide) (yr_int rfl rfl rfl (.inl ⟨rfl, wrap_in (by omega)⟩)) ?_
    refine VL.r (.inl rfl) rfl (by decide) (yr_assign rfl rfl) ?_
    refine VL.nil ?_
    refine VE.round (i + 1, a29, c29) ?_ ?_ ?_ ?_ ?_
    · exact (.cons rfl (.cons (congrArg (fun i => some (Value.int .i64 i)) (by omega)) .nil))
    · exact (.cons rfl (.cons rfl .nil))
    · exact (fun w1 hw => by
        have h9 := hw.sub (List.sublist_cons_self _ _)
        show Hp _ (⟨a29, sl (segK (ps, cl, cur) (i + 1)), c29 * 6, _⟩ :: _) w1
        rw [← segK_snoc, segB_in (w := (ps, cl, cur)) (i := i) (by show i + 1 < ps.length; omega)]
        exact h9)
    · omega
    · (try dsimp only); omega
  replace h1 := ic_lss' h1
  refine V.exit ?_
  refine VE.then_exit ?_
  refine VE.then_exit ?_
  refine VE.block_here ?_
  refine VE.then_wp ?_
  refine V.seq ?_
  refine V.seq ?_
  refine V.region ?_
  refine VL.r (.inl rfl) rfl (by decide) (yr_fieldAddr rfl Try.underlying27 rfl rfl sz4_Field (by decide) rfl) ?_
  refine VL.q (.inl rfl) rfl (by decide) (yq_load rfl fb4_Field rfl zz0 rfl) ?_
  refine VL.nil ?_
  refine VE.then_wp ?_
  refine V.cond rfl (fun h2 => ?_) (fun h2 => ?_)
  · skip
    refine V.draw [(0, 0), (1, 0), (2, 0), (3, 0), (4, 0), (5, 0), (6, 0), (7, 0), (8, 0), (9, 0), (10, 0), (11, 0), (12, 1), (13, 3), (14, 0)] mixed_Field (by kernel_rfl) (by intro j o hj; simp at hj) ?_
    refine SW.r rfl (.inl rfl) rfl (by decide) (yr_move rfl rfl) ?_
    refine SW.r rfl (.inl rfl) rfl (by decide) (yr_fieldAddr rfl Try.underlying27 rfl rfl sz24_Field (by decide) rfl) ?_
    refine SW.q rfl (.inl rfl) rfl (by decide) (yq_load rfl fb24_Field rfl zz0 rfl) ?_
    refine SW.r rfl (.inl rfl) rfl (by decide) (yr_move rfl rfl) ?_
    refine SW.r rfl (.inl rfl) rfl (by decide) (yr_int rfl rfl rfl (.inr (.inl ⟨rfl, wrap_in (by omega)⟩))) ?_
    refine SW.q rfl (.inl rfl) rfl (by decide) (yq_idxN (k := (ps.length - 1)) rfl Try.underlying24 sz32_Field rfl rfl zz0 zz6 (by exact vl_length _) (by decide) (by omega)) ?_
    refine SW.q rfl (.inl rfl) rfl (by decide) (yq_loadV rfl Try.underlying32 sz32_Field rfl zz0 (by omega)) ?_
    refine SW.r rfl (.inl rfl) rfl (by decide) (yr_fieldAddr rfl Try.underlying27 rfl rfl sz24_Field (by decide) rfl) ?_
    refine SW.q rfl (.inl rfl) rfl (by decide) (yq_load rfl fb24_Field rfl zz0 rfl) ?_
    refine SW.q rfl (.inl rfl) rfl (by decide) (yq_idxN (k := 0) rfl Try.underlying24 sz32_Field rfl rfl zz0 zz6 (by exact vl_length _) (by decide) (by omega)) ?_
    refine SW.q rfl (.inl rfl) rfl (by decide) (yq_loadV rfl Try.underlying32 sz32_Field rfl zz0 (by omega)) ?_
    refine SW.r rfl (.inl rfl) rfl (by decide) (yr_build rfl lay88_Field rfl (.cons rfl (.cons rfl .nil)) zz7 rfl) ?_
    refine SW.new1 rfl (.inl rfl) rfl (by decide) (yn_buildSlice rfl Try.underlying85 elt88_Field rfl (by decide) (.cons rfl .nil) (by first | (simp; done) | (simp [vv]; done)) rfl rfl) ?_
    intro b44
    refine SW.c rfl (.inl rfl) rfl (by decide) (yc_appendz 6 rfl rfl Try.underlying85 elt88_Field rfl rfl zz3 zz0 rfl (by rw [sl_length, segK_length]) rfl (sl_scal _) rfl (by omega) (by omega)) ?_
    rintro ⟨a45, c45⟩
    refine SW.r rfl (.inl rfl) rfl (by decide) (yr_assign rfl rfl) ?_
    refine SW.done ?_
    refine VE.then_wp ?_
    refine V.seq ?_
    refine V.region ?_
    refine VL.r (.inl rfl) rfl (by decide) (yr_move rfl rfl) ?_
    refine VL.r (.inl rfl) rfl (by decide) (yr_assign rfl rfl) ?_
    refine VL.nil ?_
    refine VE.then_wp ?_
    refine V.ret ?_
    refine ret1 rfl rfl (fun w1 hw => ?_)
    first
      | (have hn : segN (ps, cl, cur) = i := by (show (if cl then ps.length else ps.length - 1) = i); rw [h2]; (show ps.length - 1 = i); omega
         exact ⟨(a3, c3), by rw [hn], by rw [hn]; exact hw.out1⟩)
      | (have hn : segN (ps, cl, cur) = i + 1 := by (show (if cl then ps.length else ps.length - 1) = i + 1); rw [h2]; (show ps.length = i + 1); omega
         have h9 := hw.sub (List.sublist_cons_self _ _)
         refine ⟨(a45, c45), by rw [hn], ?_⟩
         rw [hn, ← segK_snoc, segB_end (w := (ps, cl, cur)) (i := i) (by show i + 1 = ps.length; omega)]
         have hA9 : segA (ps, cl, cur) i = ps.getD (ps.length - 1) z3 := by (show ps.getD i z3 = _); rw [show i = ps.length - 1 by omega]
         rw [hA9]
         exact h9.out1)
  refine V.skip ?_
  refine VE.then_wp ?_
  refine V.seq ?_
  refine V.region ?_
  refine VL.r (.inl rfl) rfl (by decide) (yr_move rfl rfl) ?_
  refine VL.r (.inl rfl) rfl (by decide) (yr_assign rfl rfl) ?_
  refine VL.nil ?_
  refine VE.then_wp ?_
  refine V.ret ?_
  refine ret1 rfl rfl (fun w1 hw => ?_)
  first
    | (have hn : segN (ps, cl, cur) = i := by (show (if cl then ps.length else ps.length - 1) = i); rw [h2]; (show ps.length - 1 = i); omega
       exact ⟨(a3, c3), by rw [hn], by rw [hn]; exact hw.out1⟩)
    | (have hn : segN (ps, cl, cur) = i + 1 := by (show (if cl then ps.length else ps.length - 1) = i + 1); rw [h2]; (show ps.length = i + 1); omega
       have h9 := hw.sub (List.sublist_cons_self _ _)
       refine ⟨(a45, c45), by rw [hn], ?_⟩
       rw [hn, ← segK_snoc, segB_end (w := (ps, cl, cur)) (i := i) (by show i + 1 = ps.length; omega)]
       have hA9 : segA (ps, cl, cur) i = ps.getD (ps.length - 1) z3 := by (show ps.getD i z3 = _); rw [show i = ps.length - 1 by omega]
       rw [hA9]
       exact h9.out1)
theorem c_field {w : World} {a : Option Addr} {c : Nat} {ps : List V3} {cl : Bool} {cur : Nat} {p1 p2 p3 : Nat} (hA : Cl w a (vl ps)) (hlo : 2 ≤ ps.length) (hhi : ps.length ≤ 48) : Pure Try.prog 55 [.agg #[.slice a ps.length c, .bool cl, .float .f32 cur], vv (p1, p2, p3)] w (vv (wireF (ps, cl, cur) (p1, p2, p3))) := by
  refine Pure.enter Try.func55 rfl Try.ntmps55 (Nat.le_of_ble_eq_true rfl) ?_
  refine V.seq ?_
  refine V.region ?_
  refine VL.new1 (.inl rfl) rfl (by decide) (yn_box rfl rfl (.inr ⟨rfl, rfl⟩)) ?_
  intro b2
  refine VL.new1 (.inl rfl) rfl (by decide) (yn_box rfl rfl (.inr ⟨rfl, rfl⟩)) ?_
  intro b3
  refine VL.new1 (.inl rfl) rfl (by decide) (yn_alloc rfl zero32_Field rfl) ?_
  intro b4
  refine VL.nil ?_
  refine VE.then_wp ?_
  refine V.seq ?_
  refine V.region ?_
  refine VL.r (.inl rfl) rfl (by decide) (yr_build rfl lay32_Field rfl .nil zz7 rfl) ?_
  refine VL.new1 (.inl rfl) rfl (by decide) (yn_alloc rfl zero32_Field rfl) ?_
  intro b5
  refine VL.s (.inl rfl) rfl (yc_store rfl sz32_Field rfl rfl zz3 (.inr ⟨rfl, rfl⟩) rfl zz4 (by decide) rfl) ?_
  rintro ⟨⟩
  refine VL.nil ?_
  refine VE.then_wp ?_
  refine V.seq ?_
  refine V.seq ?_
  refine V.region ?_
  refine VL.q (.inl rfl) rfl (by decide) (yq_loadS rfl Try.underlying27 sz27_Field rfl zz0 rfl rfl rfl) ?_
  refine VL.new1 (.inl rfl) rfl (by decide) (yn_callf rfl known59_Field (.cons rfl .nil) (fun w hw => (c_segments zz2 (by omega) (by omega)))) ?_
  rintro ⟨a10, c10⟩
  refine VL.r (.inl rfl) rfl (by decide) (yr_len rfl Try.underlying85 rfl) ?_
  refine VL.r (.inl rfl) rfl (by decide) (yr_move (u := .int .i64 0) rfl rfl) ?_
  refine VL.nil ?_
  refine VE.then_wp ?_
  refine V.block ?_
  refine V.loopc (G := Nat) [(2, _), (3, _), (4, _), (5, _), (10, _), (11, _)] (fun (i : Nat) => i ≤ segN (ps, cl, cur)) (fun (i : Nat) => [⟨a10, sl (segK (ps, cl, cur) (segN (ps, cl, cur))), c10 * 6, 88⟩, ⟨some ⟨b5, 0, none⟩, [.float .f32 (sumW (ps, cl, cur) (p1, p2, p3) i).1, .float .f32 (sumW (ps, cl, cur) (p1, p2, p3) i).2.1, .float .f32 (sumW (ps, cl, cur) (p1, p2, p3) i).2.2], 3, 32⟩, ⟨some ⟨b4, 0, none⟩, [.float .f32 (z3).1, .float .f32 (z3).2.1, .float .f32 (z3).2.2], 3, 32⟩, ⟨some ⟨b3, 0, none⟩, [.float .f32 ((p1, p2, p3)).1, .float .f32 ((p1, p2, p3)).2.1, .float .f32 ((p1, p2, p3)).2.2], 3, 32⟩, ⟨some ⟨b2, 0, none⟩, [.slice a ps.length c, .bool cl, .float .f32 cur], 3, 27⟩]) (fun (i : Nat) => [(12, .int .i64 (i : Int))]) (fun (i : Nat) => segN (ps, cl, cur) - i) 0 (.cons rfl (.cons rfl (.cons rfl (.cons rfl (.cons rfl (.cons rfl .nil)))))) (.cons rfl .nil) ?_ ?_ ?_
  · exact (fun w hw => hw)
  · exact (by omega)
  rintro i hi
  show V _ _ _ [⟨a10, sl (segK (ps, cl, cur) (segN (ps, cl, cur))), c10 * 6, 88⟩, ⟨some ⟨b5, 0, none⟩, [.float .f32 (sumW (ps, cl, cur) (p1, p2, p3) i).1, .float .f32 (sumW (ps, cl, cur) (p1, p2, p3) i).2.1, .float .f32 (sumW (ps, cl, cur) (p1, p2, p3) i).2.2], 3, 32⟩, ⟨some ⟨b4, 0, none⟩, [.float .f32 (z3).1, .float .f32 (z3).2.1, .float .f32 (z3).2.2], 3, 32⟩, ⟨some ⟨b3, 0, none⟩, [.float .f32 ((p1, p2, p3)).1, .float .f32 ((p1, p2, p3)).2.1, .float .f32 ((p1, p2, p3)).2.2], 3, 32⟩, ⟨some ⟨b2, 0, none⟩, [.slice a ps.length c, .bool cl, .float .f32 cur], 3, 27⟩] ([(12, .int .i64 (i : Int))] ++ [(2, _), (3, _), (4, _), (5, _), (10, _), (11, _)]) _ _
  have hsn : segN (ps, cl, cur) ≤ 48 := Nat.le_trans segN_le hhi
  refine V.seq ?_
  refine V.region ?_
  refine VL.r (.inl rfl) rfl (by decide) (yr_icmp rfl (.inr (.inr (.inl rfl))) rfl rfl) ?_
  refine VL.nil ?_
  refine VE.then_wp ?_
  refine V.seq ?_
  refine V.cond rfl (fun h1 => ?_) (fun h1 => ?_)
  · skip
    replace h1 := ic_lss h1
    refine V.skip ?_
    refine VE.then_wp ?_
    refine V.seq ?_
    refine V.block ?_
    refine V.seq ?_
    refine V.region ?_
    refine VL.q (.inl rfl) rfl (by decide) (yq_idxN (k := i) rfl Try.underlying85 sz88_Field rfl rfl zz0 zz6 (by rw [sl_length, segK_length]) (by decide) (by omega)) ?_
    refine VL.q (.inl rfl) rfl (by decide) (yq_loadG rfl Try.underlying88 sz88_Field rfl zz0 (by omega)) ?_
    refine VL.new1 (.inl rfl) rfl (by decide) (yn_alloc rfl zero88_Field rfl) ?_
    intro b7
    refine VL.s (.inl rfl) rfl (yc_store rfl sz88_Field rfl rfl zz3 (.inr ⟨rfl, rfl⟩) rfl zz4 (by decide) rfl) ?_
    rintro ⟨⟩
    refine VL.nil ?_
    refine VE.then_wp ?_
    refine V.draw [(0, 0), (1, 0), (2, 0), (3, 0), (4, 0), (5, 0), (6, 0), (7, 0), (8, 3)] mixed_Field (by kernel_rfl) (by intro j o hj; simp at hj) ?_
    refine SW.q rfl (.inl rfl) rfl (by decide) (yq_loadS rfl Try.underlying32 sz32_Field rfl zz0 rfl rfl rfl) ?_
    refine SW.r rfl (.inl rfl) rfl (by decide) (yr_fieldAddr rfl Try.underlying88 rfl rfl sz32_Field (by decide) rfl) ?_
    refine SW.q rfl (.inl rfl) rfl (by decide) (yq_loadS rfl Try.underlying32 sz32_Field rfl zz0 rfl rfl rfl) ?_
    refine SW.r rfl (.inl rfl) rfl (by decide) (yr_fieldAddr rfl Try.underlying88 rfl rfl sz32_Field (by decide) rfl) ?_
    refine SW.q rfl (.inl rfl) rfl (by decide) (yq_loadS rfl Try.underlying32 sz32_Field rfl zz0 rfl rfl rfl) ?_
    refine SW.q rfl (.inl rfl) rfl (by decide) (yq_loadS rfl Try.underlying32 sz32_Field rfl zz0 rfl rfl rfl) ?_
    refine SW.q rfl (.inl rfl) rfl (by decide) (yq_callf rfl known60_Field (.cons rfl (.cons rfl (.cons rfl .nil))) (fun w hw => c_segF)) ?_
    refine SW.q rfl (.inl rfl) rfl (by decide) (yq_callf rfl known45_Field (.cons rfl (.cons rfl .nil)) (fun w hw => c_add3)) ?_
    refine SW.s rfl (.inl rfl) rfl (yc_store rfl sz32_Field rfl rfl zz3 (.inr ⟨rfl, rfl⟩) rfl zz4 (by decide) rfl) ?_
    rintro ⟨⟩
    refine SW.done ?_
    refine VE.block_normal ?_
    refine VE.then_wp ?_
    refine V.region ?_
    refine VL.r (.inl rfl) rfl (by decide) (yr_int rfl rfl rfl (.inl ⟨rfl, wrap_in (by omega)⟩)) ?_
    refine VL.r (.inl rfl) rfl (by decide) (yr_move rfl rfl) ?_
    refine VL.nil ?_
    refine VE.round (i + 1) ?_ ?_ ?_ ?_ ?_
    · exact (.cons rfl .nil)
    · exact (.cons rfl (.cons rfl (.cons rfl (.cons rfl (.cons rfl (.cons rfl .nil))))))
    · exact (fun w hw => hw.sub (List.sublist_cons_self _ _))
    · omega
    · (try dsimp only); omega
  replace h1 := ic_lss' h1
  refine V.exit ?_
  refine VE.then_exit ?_
  refine VE.then_exit ?_
  refine VE.block_here ?_
  refine VE.then_wp ?_
  refine V.seq ?_
  refine V.region ?_
  refine VL.q (.inl rfl) rfl (by decide) (yq_loadS rfl Try.underlying32 sz32_Field rfl zz0 rfl rfl rfl) ?_
  refine VL.r (.inl rfl) rfl (by decide) (yr_fieldAddr rfl Try.underlying27 rfl rfl sz25_Field (by decide) rfl) ?_
  refine VL.q (.inl rfl) rfl (by decide) (yq_load rfl fb25_Field rfl zz0 rfl) ?_
  refine VL.q (.inl rfl) rfl (by decide) (yq_callf rfl known46_Field (.cons rfl (.cons rfl .nil)) (fun w hw => c_scale3)) ?_
  refine VL.s (.inl rfl) rfl (yc_store rfl sz32_Field rfl rfl zz3 (.inr ⟨rfl, rfl⟩) rfl zz4 (by decide) rfl) ?_
  rintro ⟨⟩
  refine VL.nil ?_
  refine VE.then_wp ?_
  refine V.ret ?_
  refine retC rfl (rv_cellS rfl Try.underlying32 sz32_Field zz0 rfl rfl rfl) (by nofun) (fun w1 hw => ?_)
  obtain rfl : i = segN (ps, cl, cur) := by omega
  exact ⟨rfl, hw.below⟩
theorem c_fieldAll {w : World} {a : Option Addr} {c : Nat} {f : Nat → Option Addr × Nat} {ws : List Wr} {p1 p2 p3 : Nat} (hA : Cl w a (whd f ws)) (hR : WRws w f ws) (hn : wbulk ws ≤ 1050000) (hv : wiresOk ws = true) : Pure Try.prog 43 [.slice a ws.length c, vv (p1, p2, p3)] w (.tuple #[vv (fieldI ws (p1, p2, p3)), .bool (fin3 (p1, p2, p3) && fin3 (fieldI ws (p1, p2, p3)))]) := by
  refine Pure.enter Try.func43 rfl Try.ntmps43 (Nat.le_of_ble_eq_true rfl) ?_
  have hwl : ws.length ≤ wbulk ws := by unfold wbulk; omega
  have hrw : ∀ k, k < ws.length → (ws.getD k zw).1.length ≤ 1050000 := fun k hk => by have := wbulk_row hk; omega
  have hv8 := wires_len hv
  have hvl := fun (k : Nat) (hk : k < ws.length) => wire_len hv hk
  refine V.seq ?_
  refine V.region ?_
  refine VL.new1 (.inl rfl) rfl (by decide) (yn_box rfl rfl (.inr ⟨rfl, rfl⟩)) ?_
  intro b3
  refine VL.new1 (.inl rfl) rfl (by decide) (yn_alloc rfl zero32_Field rfl) ?_
  intro b4
  refine VL.r (.inl rfl) rfl (by decide) (yr_assign (u := .bool false) rfl rfl) ?_
  refine VL.nil ?_
  refine VE.then_wp ?_
  refine V.seq ?_
  refine V.region ?_
  refine VL.r (.inl rfl) rfl (by decide) (yr_build rfl lay32_Field rfl .nil zz7 rfl) ?_
  refine VL.new1 (.inl rfl) rfl (by decide) (yn_alloc rfl zero32_Field rfl) ?_
  intro b6
  refine VL.s (.inl rfl) rfl (yc_store rfl sz32_Field rfl rfl zz3 (.inr ⟨rfl, rfl⟩) rfl zz4 (by decide) rfl) ?_
  rintro ⟨⟩
  refine VL.nil ?_
  refine VE.then_wp ?_
  refine V.seq ?_
  refine V.seq ?_
  refine V.region ?_
  refine VL.r (.inl rfl) rfl (by decide) (yr_move rfl rfl) ?_
  refine VL.r (.inl rfl) rfl (by decide) (yr_len rfl Try.underlying30 rfl) ?_
  refine VL.r (.inl rfl) rfl (by decide) (yr_move (u := .int .i64 0) rfl rfl) ?_
  refine VL.nil ?_
  refine VE.then_wp ?_
  refine V.block ?_
  refine V.loopc (G := Nat) [(3, _), (4, _), (6, _), (10, _), (11, _)] (fun (i : Nat) => i ≤ ws.length) (fun (i : Nat) => [⟨some ⟨b6, 0, none⟩, [.float .f32 (sumA ws (p1, p2, p3) z3 i).1, .float .f32 (sumA ws (p1, p2, p3) z3 i).2.1, .float .f32 (sumA ws (p1, p2, p3) z3 i).2.2], 3, 32⟩, ⟨some ⟨b4, 0, none⟩, [.float .f32 (z3).1, .float .f32 (z3).2.1, .float .f32 (z3).2.2], 3, 32⟩, ⟨some ⟨b3, 0, none⟩, [.float .f32 ((p1, p2, p3)).1, .float .f32 ((p1, p2, p3)).2.1, .float .f32 ((p1, p2, p3)).2.2], 3, 32⟩]) (fun (i : Nat) => [(12, .int .i64 (i : Int))]) (fun (i : Nat) => ws.length - i) 0 (.cons rfl (.cons rfl (.cons rfl (.cons rfl (.cons rfl .nil))))) (.cons rfl .nil) ?_ ?_ ?_
  · exact (fun w hw => hw)
  · exact (by omega)
  rintro i hi
  show V _ _ _ [⟨some ⟨b6, 0, none⟩, [.float .f32 (sumA ws (p1, p2, p3) z3 i).1, .float .f32 (sumA ws (p1, p2, p3) z3 i).2.1, .float .f32 (sumA ws (p1, p2, p3) z3 i).2.2], 3, 32⟩, ⟨some ⟨b4, 0, none⟩, [.float .f32 (z3).1, .float .f32 (z3).2.1, .float .f32 (z3).2.2], 3, 32⟩, ⟨some ⟨b3, 0, none⟩, [.float .f32 ((p1, p2, p3)).1, .float .f32 ((p1, p2, p3)).2.1, .float .f32 ((p1, p2, p3)).2.2], 3, 32⟩] ([(12, .int .i64 (i : Int))] ++ [(3, _), (4, _), (6, _), (10, _), (11, _)]) _ _
  refine V.seq ?_
  refine V.region ?_
  refine VL.r (.inl rfl) rfl (by decide) (yr_icmp rfl (.inr (.inr (.inl rfl))) rfl rfl) ?_
  refine VL.nil ?_
  refine VE.then_wp ?_
  refine V.seq ?_
  refine V.cond rfl (fun h1 => ?_) (fun h1 => ?_)
  · skip
    replace h1 := ic_lss h1
    refine V.skip ?_
    refine VE.then_wp ?_
    refine V.seq ?_
    refine V.block ?_
    refine V.seq ?_
    refine V.region ?_
    refine VL.q (.inl rfl) rfl (by decide) (yq_idxN (k := i) rfl Try.underlying30 sz27_Field rfl rfl zz0 zz6 (by exact whd_length _ _) (by decide) (by omega)) ?_
    refine VL.q (.inl rfl) rfl (by decide) (yq_loadW rfl Try.underlying27 sz27_Field rfl zz0 (by omega)) ?_
    refine VL.new1 (.inl rfl) rfl (by decide) (yn_alloc rfl zero27_Field rfl) ?_
    intro b8
    refine VL.s (.inl rfl) rfl (yc_store rfl sz27_Field rfl rfl zz3 (.inr ⟨rfl, rfl⟩) rfl zz4 (by decide) rfl) ?_
    rintro ⟨⟩
    refine VL.nil ?_
    refine VE.then_wp ?_
    refine V.draw [(0, 0), (1, 0), (2, 0), (3, 0), (4, 0), (5, 3)] mixed_Field (by kernel_rfl) (by intro j o hj; simp at hj) ?_
    refine SW.q rfl (.inl rfl) rfl (by decide) (yq_loadS rfl Try.underlying32 sz32_Field rfl zz0 rfl rfl rfl) ?_
    refine SW.q rfl (.inl rfl) rfl (by decide) (yq_loadS rfl Try.underlying27 sz27_Field rfl zz0 rfl rfl rfl) ?_
    refine SW.q rfl (.inl rfl) rfl (by decide) (yq_loadS rfl Try.underlying32 sz32_Field rfl zz0 rfl rfl rfl) ?_
    refine SW.q rfl (.inl rfl) rfl (by decide) (yq_callf rfl known55_Field (.cons rfl (.cons rfl .nil)) (fun w hw => (c_field (ps := (ws.getD i zw).1) (hR.root hw i (by omega)) (hvl i (by omega)).1 (hvl i (by omega)).2))) ?_
    refine SW.q rfl (.inl rfl) rfl (by decide) (yq_callf rfl known45_Field (.cons rfl (.cons rfl .nil)) (fun w hw => c_add3)) ?_
    refine SW.s rfl (.inl rfl) rfl (yc_store rfl sz32_Field rfl rfl zz3 (.inr ⟨rfl, rfl⟩) rfl zz4 (by decide) rfl) ?_
    rintro ⟨⟩
    refine SW.done ?_
    refine VE.block_normal ?_
    refine VE.then_wp ?_
    refine V.region ?_
    refine VL.r (.inl rfl) rfl (by decide) (yr_int rfl rfl rfl (.inl ⟨rfl, wrap_in (by omega)⟩)) ?_
    refine VL.r (.inl rfl) rfl (by decide) (yr_move rfl rfl) ?_
    refine VL.nil ?_
    refine VE.round (i + 1) ?_ ?_ ?_ ?_ ?_
    · exact (.cons rfl .nil)
    · exact (.cons rfl (.cons rfl (.cons rfl (.cons rfl (.cons rfl .nil)))))
    · exact (fun w hw => hw.sub (List.sublist_cons_self _ _))
    · omega
    · (try dsimp only); omega
  replace h1 := ic_lss' h1
  refine V.exit ?_
  refine VE.then_exit ?_
  refine VE.then_exit ?_
  refine VE.block_here ?_
  refine VE.then_wp ?_
  refine V.seq ?_
  refine Dr.V.drawR [(0, 5), (1, 5), (2, 5), (3, 5), (4, 5), (5, 5), (6, 5), (7, 3), (8, 5)] [] [⟨some ⟨b4, 0, none⟩, [.float .f32 (z3).1, .float .f32 (z3).2.1, .float .f32 (z3).2.2], 3, 32⟩] _ mixed_Field (by kernel_rfl) (fun w hw => Hp.pickS hw (by apply Pick.one; repeat (first | exact Rem.here | apply Rem.there))) ?_
  refine Dr.SW.p rfl (.inl rfl) rfl (by decide) (yq_loadS rfl Try.underlying32 sz32_Field rfl zz1 rfl rfl rfl) ?_
  refine Dr.SW.p rfl (.inl rfl) rfl (by decide) (yq_loadS rfl Try.underlying32 sz32_Field rfl zz1 rfl rfl rfl) ?_
  refine Dr.SW.p rfl (.inl rfl) rfl (by decide) (yq_callf rfl known24_Field (.cons rfl .nil) (fun w hw => c_fin3)) ?_
  refine Dr.SW.r rfl (.inl rfl) rfl (by decide) (yr_move rfl rfl) ?_
  refine Dr.SW.split Dr.lax_ve 25 _ rfl (fun h2 => ?_) (fun h2 => ?_)
  · skip
    refine Dr.SW.p rfl (.inr ⟨_, _, _, rfl, rfl, rfl⟩) rfl (by decide) (yq_loadS rfl Try.underlying32 sz32_Field rfl zz1 rfl rfl rfl) ?_
    refine Dr.SW.p rfl (.inr ⟨_, _, _, rfl, rfl, rfl⟩) rfl (by decide) (yq_callf rfl known24_Field (.cons rfl .nil) (fun w hw => c_fin3)) ?_
    refine Dr.SW.r rfl (.inl rfl) rfl (by decide) (yr_pick_t rfl rfl rfl) ?_
    refine Dr.SW.s rfl (.inl rfl) rfl (yc_store rfl sz32_Field rfl rfl (Dr.UpdF.app zz3) (.inr ⟨rfl, rfl⟩) rfl zz4 (by decide) rfl) ?_
    rintro ⟨⟩
    refine Dr.SW.r rfl (.inl rfl) rfl (by decide) (yr_assign rfl rfl) ?_
    refine Dr.SW.done ?_
    refine Dr.eqO (by simp only [List.append_nil, List.append_assoc, List.cons_append, List.nil_append] <;> rfl) ?_
    refine VE.then_wp ?_
    refine V.ret ?_
    refine retN rfl (.cons (rv_cellS rfl Try.underlying32 sz32_Field zz0 rfl rfl rfl) (.cons (rv_tmp rfl (by nofun)) .nil)) (by nofun) (fun w1 hw => ?_)
    obtain rfl : i = ws.length := by omega
    first
      | exact ⟨congrArg (fun b => Value.tuple #[vv (fieldI ws (p1, p2, p3)), .bool b]) (by rw [show fin3 (p1, p2, p3) = true by assumption, Bool.true_and]; rfl), hw.below⟩
      | exact ⟨congrArg (fun b => Value.tuple #[vv (fieldI ws (p1, p2, p3)), .bool b]) (by rw [show fin3 (p1, p2, p3) = false by assumption, Bool.false_and]), hw.below⟩
  refine Dr.SW.no rfl (by decide) rfl rfl rfl rfl rfl (by decide) ?_
  refine Dr.SW.no rfl (by decide) rfl rfl rfl rfl rfl (by decide) ?_
  refine Dr.SW.r rfl (.inl rfl) rfl (by decide) (yr_pick_f (u := .bool false) rfl rfl rfl) ?_
  refine Dr.SW.s rfl (.inl rfl) rfl (yc_store rfl sz32_Field rfl rfl (Dr.UpdF.app zz3) (.inr ⟨rfl, rfl⟩) rfl zz4 (by decide) rfl) ?_
  rintro ⟨⟩
  refine Dr.SW.r rfl (.inl rfl) rfl (by decide) (yr_assign rfl rfl) ?_
  refine Dr.SW.done ?_
  refine Dr.eqO (by simp only [List.append_nil, List.append_assoc, List.cons_append, List.nil_append] <;> rfl) ?_
  refine VE.then_wp ?_
  refine V.ret ?_
  refine retN rfl (.cons (rv_cellS rfl Try.underlying32 sz32_Field zz0 rfl rfl rfl) (.cons (rv_tmp rfl (by nofun)) .nil)) (by nofun) (fun w1 hw => ?_)
  obtain rfl : i = ws.length := by omega
  first
    | exact ⟨congrArg (fun b => Value.tuple #[vv (fieldI ws (p1, p2, p3)), .bool b]) (by rw [show fin3 (p1, p2, p3) = true by assumption, Bool.true_and]; rfl), hw.below⟩
    | exact ⟨congrArg (fun b => Value.tuple #[vv (fieldI ws (p1, p2, p3)), .bool b]) (by rw [show fin3 (p1, p2, p3) = false by assumption, Bool.false_and]), hw.below⟩
theorem c_ifV {w : World} {x1 x2 x3 : Nat} : Pure Try.prog 47 [vv (x1, x2, x3)] w (.tuple #[vv (ifV (x1, x2, x3)), .bool (fin3 (x1, x2, x3))]) := by
  refine Pure.enter Try.func47 rfl Try.ntmps47 (Nat.le_of_ble_eq_true rfl) ?_
  refine V.seq ?_
  refine V.region ?_
  refine VL.new1 (.inl rfl) rfl (by decide) (yn_box rfl rfl (.inr ⟨rfl, rfl⟩)) ?_
  intro b1
  refine VL.new1 (.inl rfl) rfl (by decide) (yn_alloc rfl zero32_Field rfl) ?_
  intro b2
  refine VL.r (.inl rfl) rfl (by decide) (yr_assign (u := .bool false) rfl rfl) ?_
  refine VL.nil ?_
  refine VE.then_wp ?_
  refine V.seq ?_
  refine V.seq ?_
  refine V.region ?_
  refine VL.q (.inl rfl) rfl (by decide) (yq_loadS rfl Try.underlying32 sz32_Field rfl zz0 rfl rfl rfl) ?_
  refine VL.q (.inl rfl) rfl (by decide) (yq_callf rfl known24_Field (.cons rfl .nil) (fun w hw => c_fin3)) ?_
  refine VL.r (.inl rfl) rfl (by decide) (yr_not rfl rfl) ?_
  refine VL.nil ?_
  refine VE.then_wp ?_
  refine V.cond rfl (fun h1 => ?_) (fun h1 => ?_)
  · skip
    replace h1 := bnot_t h1
    refine V.seq ?_
    refine V.region ?_
    refine VL.r (.inl rfl) rfl (by decide) (yr_build rfl lay32_Field rfl .nil zz7 rfl) ?_
    refine VL.s (.inl rfl) rfl (yc_store rfl sz32_Field rfl rfl zz3 (.inr ⟨rfl, rfl⟩) rfl zz4 (by decide) rfl) ?_
    rintro ⟨⟩
    refine VL.r (.inl rfl) rfl (by decide) (yr_assign (u := .bool false) rfl rfl) ?_
    refine VL.nil ?_
    refine VE.then_wp ?_
    refine V.ret ?_
    refine VE.then_ret ?_
    refine retN rfl (.cons (rv_cellS rfl Try.underlying32 sz32_Field zz0 rfl rfl rfl) (.cons (rv_tmp rfl (by nofun)) .nil)) (by nofun) (fun w1 hw => ?_)
    first
      | exact ⟨by rw [show fin3 (x1, x2, x3) = true by assumption, ← ifV_yes (v := (x1, x2, x3)) (by assumption)] <;> rfl, hw.below⟩
      | exact ⟨by rw [show fin3 (x1, x2, x3) = false by assumption, ← ifV_no (v := (x1, x2, x3)) (by assumption)] <;> rfl, hw.below⟩
  replace h1 := bnot_f h1
  refine V.skip ?_
  refine VE.then_wp ?_
  refine V.seq ?_
  refine V.region ?_
  refine VL.q (.inl rfl) rfl (by decide) (yq_loadS rfl Try.underlying32 sz32_Field rfl zz0 rfl rfl rfl) ?_
  refine VL.s (.inl rfl) rfl (yc_store rfl sz32_Field rfl rfl zz3 (.inr ⟨rfl, rfl⟩) rfl zz4 (by decide) rfl) ?_
  rintro ⟨⟩
  refine VL.r (.inl rfl) rfl (by decide) (yr_assign (u := .bool true) rfl rfl) ?_
  refine VL.nil ?_
  refine VE.then_wp ?_
  refine V.ret ?_
  refine retN rfl (.cons (rv_cellS rfl Try.underlying32 sz32_Field zz0 rfl rfl rfl) (.cons (rv_tmp rfl (by nofun)) .nil)) (by nofun) (fun w1 hw => ?_)
  first
    | exact ⟨by rw [show fin3 (x1, x2, x3) = true by assumption, ← ifV_yes (v := (x1, x2, x3)) (by assumption)] <;> rfl, hw.below⟩
    | exact ⟨by rw [show fin3 (x1, x2, x3) = false by assumption, ← ifV_no (v := (x1, x2, x3)) (by assumption)] <;> rfl, hw.below⟩
end Go.Proofs.Ytfkblhlkeglilaa
