/- Own texts of this claim, merged: Exact, Draw, In, Root, Vec, Wire, Field, PackA, Slice, Bytes, Mesh, PackB, PackC, Sharp, SharpB, SharpC, Text, Unp, UnpB, UnpE, UnpF, UnpG, Rnd, R8, OpenB, Nmk, Vw, Frk, Frl, Frm, Frn. -/
import Derived.Laws.BytesString
import GoSem.Dispatch
import Derived.Conc.Events
import Derived.Conc.CompanyDraw
import Derived.Test.YtgeflnjjppgooaaKFnFitted1
namespace Go.Proofs.Ytgeflnjjppgooaa
open Go.RowKit
theorem units_pos (f : Ieee.Format) {r : Nat} (h : r ≠ 0) : units f r ≠ 0 := fun e => h ((units_zero f).1 e)
/-- A number that the format has is written as its word. -/
theorem nearest_units (f : Ieee.Format) (s : Bool) {m r a b : Nat} {e : Int} (hr : r ≤ f.infRung) (he : e + a = f.leastPlace + b) (h : m * 2 ^ b = units f r * 2 ^ a) : f.nearest s m e = f.word s r := by
  unfold Ieee.Format.nearest
  have hpa := pow_pos' a
  have hpb := pow_pos' b
  by_cases hr0 : r = 0
  · subst hr0
    have hu : units f 0 = 0 := (units_zero f).2 rfl
    rw [hu, Nat.zero_mul] at h
    have hm : m = 0 := by
      rcases Nat.mul_eq_zero.1 h with h | h
      · exact h
      · omega
    rw [if_pos hm]
  · have hu := units_pos f hr0
    have hm : m ≠ 0 := by
      rintro rfl
      rw [Nat.zero_mul] at h
      rcases Nat.mul_eq_zero.1 h.symm with h | h
      · exact hu h
      · omega
    rw [if_neg hm]
    have hl : m.log2 + b = (units f r).log2 + a := by rw [← log2_mul_pow hm b, ← log2_mul_pow hu a, h]
    have hb : 0 < f.binade := pow_pos' _
    -- the kept digits, for any last place at which the number is whole
    have key : ∀ (q t : Nat), q ≠ 0 → units f r = q * 2 ^ t → Ieee.Toward.even.cut s (m <<< (e - (f.leastPlace + t)).toNat) ((f.leastPlace + t) - e).toNat = q := by
      intro q t hq hqt
      rw [hqt, Nat.mul_assoc, ← Nat.pow_add] at h
      rcases Nat.le_total (t + a) b with hle | hle
      · have e1 : (e - (f.leastPlace + t)).toNat = b - (t + a) := by omega
        have e2 : ((f.leastPlace + t) - e).toNat = 0 := by omega
        rw [e1, e2, cut_zero, shl_eq]
        have : b = (b - (t + a)) + (t + a) := by omega
        rw [this, Nat.pow_add, ← Nat.mul_assoc] at h
        exact Nat.eq_of_mul_eq_mul_right (pow_pos' _) h
      · have e1 : (e - (f.leastPlace + t)).toNat = 0 := by omega
        have e2 : ((f.leastPlace + t) - e).toNat = t + a - b := by omega
        have : t + a = (t + a - b) + b := by omega
        rw [this, Nat.pow_add, ← Nat.mul_assoc] at h
        have hm' := Nat.eq_of_mul_eq_mul_right hpb h
        rw [e1, e2, shl_eq, Nat.pow_zero, Nat.mul_one, hm']
        exact cut_exact s q _ hq
    by_cases hrb : r < f.binade
    · have hur : units f r = r := by unfold units; rw [if_pos hrb]
      have hlg : (units f r).log2 < f.fractionBits := by
        rw [hur]
        exact (Nat.log2_lt hr0).2 hrb
      have hlast : max (e + (m.log2 : Int) - (f.fractionBits : Int)) f.leastPlace = f.leastPlace + ((0 : Nat) : Int) := by omega
      simp only [hlast]
      have := key r 0 hr0 (by rw [hur]; simp)
      rw [this]
      simp
      rw [Nat.min_eq_left hr]
    · have hq1 : 1 ≤ r / f.binade := (Nat.le_div_iff_mul_le hb).2 (by omega)
      have hmod := Nat.mod_lt r hb
      have hur : units f r = (f.binade + r % f.binade) * 2 ^ (r / f.binade - 1) := by unfold units; rw [if_neg hrb]
      have hqne : f.binade + r % f.binade ≠ 0 := by omega
      have hlg : (units f r).log2 = f.fractionBits + (r / f.binade - 1) := by
        rw [hur, log2_mul_pow hqne]
        congr 1
        rw [Nat.log2_eq_iff hqne]
        have hbe : f.binade = 2 ^ f.fractionBits := rfl
        rw [Nat.pow_succ, ← hbe]
        omega
      have hlast : max (e + (m.log2 : Int) - (f.fractionBits : Int)) f.leastPlace = f.leastPlace + ((r / f.binade - 1 : Nat) : Int) := by omega
      simp only [hlast]
      rw [key _ _ hqne hur]
      congr 1
      have e1 : (f.leastPlace + ((r / f.binade - 1 : Nat) : Int) - f.leastPlace).toNat = r / f.binade - 1 := by omega
      rw [e1]
      have e2 := Nat.div_add_mod r f.binade
      have e3 : (r / f.binade - 1) * f.binade + (f.binade + r % f.binade) = r := by
        have : r / f.binade = (r / f.binade - 1) + 1 := by omega
        rw [this, Nat.mul_add, Nat.mul_one] at e2
        rw [Nat.mul_comm]
        omega
      rw [e3, Nat.min_eq_left hr]
/-- The absolute value: without the sign. -/
def fabs (k : FloatKind) (x : Nat) : Nat := if fnan k x then qn k else x % k.format.signWeight
theorem rng_word (k : FloatKind) (s : Bool) {r : Nat} (h : r ≤ k.format.infRung) : rng k.format (k.format.word s r) = r ∧ sgn k.format (k.format.word s r) = s := by
  have hlt : r < k.format.signWeight := Nat.lt_of_le_of_lt h (by cases k <;> decide)
  have hp : 0 < k.format.signWeight := pow_pos' _
  unfold rng sgn Ieee.Format.word
  cases s
  · simp only [Bool.false_eq_true, if_false]
    rw [Nat.mod_eq_of_lt hlt, Nat.div_eq_of_lt hlt]
    exact ⟨rfl, rfl⟩
  · simp only [if_true]
    rw [Nat.add_mod_left, Nat.mod_eq_of_lt hlt, Nat.add_div_left _ hp, Nat.div_eq_of_lt hlt]
    exact ⟨rfl, rfl⟩
end Go.Proofs.Ytgeflnjjppgooaa

namespace Go.Proofs.Ytgeflnjjppgooaa
open Go.RowKit
namespace Dr
/-- What an operation makes whatever is there: by its place in the region. -/
abbrev Tab := List (Nat × ((Nat → Value) × (Nat → Ent)))
section
variable {P : Program} {n : Nat} {w0 : World} {O R : List Ent} {T : Tab} {E : Env} {ops : Array Oper}
section
variable {o : Oper} {i d : Nat} {π : List (Nat × Kd)} {K : Env → List Ent → List Ent → Prop}
end
end
end Dr
theorem Hp.pick {w0 w : World} {O M F : List Ent} (hw : Hp w0 O w) (h : Pick O M F) : Hp w0 M w := (hw.perm' h.perm).sub (List.sublist_append_right _ _)
end Go.Proofs.Ytgeflnjjppgooaa

namespace Go.Proofs.Ytgeflnjjppgooaa
open Go.RowKit
section
variable {P : Program} {E : Env} {o : Oper}
end
theorem wrap_quo {a b : Int} (h : 0 ≤ a ∧ a ≤ 9223372036854775807 ∧ 0 < b) : IntKind.i64.wrap (a.tdiv b) = a.tdiv b := by
  obtain ⟨h1, h2, h3⟩ := h
  have e : a.tdiv b = a / b := Int.tdiv_eq_ediv_of_nonneg h1
  have e1 : 0 ≤ a / b := Int.ediv_nonneg h1 (by omega)
  have e2 : a / b ≤ a := Int.ediv_le_self b h1
  rw [e]
  exact wrap_in (by omega)
theorem in_t {n lo hi : Int} (h : lo ≤ n) : icmp .leq n hi = decide (lo ≤ n ∧ n ≤ hi) := by
  rw [Bool.eq_iff_iff, decide_eq_true_eq]
  constructor
  · intro h; have := ic_leq h; omega
  · rintro ⟨_, h⟩; exact decide_eq_true h
theorem in_f {n lo hi : Int} (h : n < lo) : false = decide (lo ≤ n ∧ n ≤ hi) := by
  symm; rw [decide_eq_false_iff_not]; omega
theorem can_f0 : Can .f32 0 := ⟨by decide, by decide⟩
end Go.Proofs.Ytgeflnjjppgooaa

namespace Go.Proofs.Ytgeflnjjppgooaa
theorem rootFrom_lt (n : Nat) : ∀ (todo root : Nat), Ieee.Datum.rootFrom n todo root < root + 2 ^ todo
  | 0, root => by simp [Ieee.Datum.rootFrom]
  | todo + 1, root => by
    have h1 := rootFrom_lt n todo (root + 1 <<< todo)
    have h2 := rootFrom_lt n todo root
    simp only [Ieee.Datum.rootFrom]
    rw [Nat.shiftLeft_eq, Nat.one_mul] at h1 ⊢
    rw [Nat.pow_succ]
    split <;> omega
theorem fover_sqrt (y : Nat) : fover .f64 .f32 (fsqrt (up y)) = false := by
  have hq : fover .f64 .f32 (qn .f64) = false := by decide
  cases hd : FloatKind.f32.decode y with
  | nan s f =>
    have hn : fnan .f32 y = true := by unfold fnan; rw [hd]; rfl
    rw [up_nan hn]
    decide
  | infinity s =>
    have hu : up y = Ieee.double.word s Ieee.double.infRung := by
      unfold up fconv; rw [if_neg (by decide), hd]; rfl
    rw [hu]
    cases s <;> decide
  | number s m e =>
    obtain ⟨g1, g2, g3⟩ := read32 hd
    have hu : up y = FloatKind.f64.encode (.number s m e) := by
      unfold up fconv; rw [if_neg (by decide), hd]
    have hml : m.log2 ≤ 23 := by
      by_cases h0 : m = 0
      · subst h0; decide
      · have := (Nat.log2_lt h0).2 g1
        omega
    obtain ⟨m', e', k1, k2⟩ := encode_small s (m := m) (e := e) (t := 1149) (by omega) (by decide)
    rw [← hu] at k1
    obtain ⟨b1, b2, b3, _⟩ := decode_double_bound k1
    have k1' : Ieee.double.read (up y) = .number s m' e' := k1
    unfold fsqrt Ieee.Format.sqrt
    rw [k1']
    simp only [Ieee.Datum.root]
    split
    · rename_i h0
      subst h0
      obtain ⟨m2, e2, k3, k4⟩ := encode_small s (m := 0) (e := e') (t := 0) (by have : (0 : Nat).log2 = 0 := by decide
                                                                                omega) (by decide)
      exact fover_small k3 (by omega)
    · rename_i h0
      split
      · exact hq
      · simp only [Option.map_some, Option.getD_some]
        generalize hmore : 2 * (Ieee.double.fractionBits + 2) - m'.log2 + ((e' - ((2 * (Ieee.double.fractionBits + 2) - m'.log2 : Nat) : Int)) % 2).toNat = more
        have hn : (m' <<< more).log2 = m'.log2 + more := by rw [shl_eq, log2_mul_pow h0]
        have hr := rootFrom_lt (m' <<< more) ((m' <<< more).log2 / 2 + 1) 0
        generalize Ieee.Datum.rootFrom (m' <<< more) ((m' <<< more).log2 / 2 + 1) 0 = whole at hr ⊢
        rw [hn, Nat.zero_add] at hr
        generalize hb : (whole * whole != m' <<< more).toNat = bit
        have hb1 : bit ≤ 1 := by rw [← hb]; cases (whole * whole != m' <<< more) <;> decide
        have hlog : (2 * whole + bit).log2 ≤ (m'.log2 + more) / 2 + 1 := by
          by_cases hz : 2 * whole + bit = 0
          · rw [hz]; have : (0 : Nat).log2 = 0 := by decide
            omega
          · have : 2 * whole + bit < 2 ^ ((m'.log2 + more) / 2 + 2) := by
              rw [Nat.pow_succ]; omega
            have := (Nat.log2_lt hz).2 this
            omega
        obtain ⟨m2, e2, k3, k4⟩ := encode_small false (m := 2 * whole + bit) (e := (e' - (more : Int)) / 2 - 1) (t := 1090) (by omega) (by decide)
        exact fover_small k3 (by omega)
def sqrt32 (x : Nat) : Nat := fconv .f64 .f32 (fsqrt (fconv .f32 .f64 x))
end Go.Proofs.Ytgeflnjjppgooaa

namespace Go.Proofs.Ytgeflnjjppgooaa
open Go.RowKit
abbrev V3 := Nat × Nat × Nat
def z3 : V3 := (0, 0, 0)
def vv (v : V3) : Value := .agg #[.float .f32 v.1, .float .f32 v.2.1, .float .f32 v.2.2]
def vl : List V3 → List Value
  | [] => []
  | v :: vs => .float .f32 v.1 :: .float .f32 v.2.1 :: .float .f32 v.2.2 :: vl vs
section
variable {P : Program} {n : Nat} {w0 : World} {O : List Ent} {E : Env} {o : Oper}
end
def fin3 (a : V3) : Bool := fin a.1 && fin a.2.1 && fin a.2.2
def Can3 (a : V3) : Prop := Can .f32 a.1 ∧ Can .f32 a.2.1 ∧ Can .f32 a.2.2
end Go.Proofs.Ytgeflnjjppgooaa

namespace Go.Proofs.Ytgeflnjjppgooaa
open Go.RowKit
abbrev Wr := List V3 × Bool × Nat
def zw : Wr := ([], false, 0)
def wrents (t : TypeId) (f : Nat → Option Addr × Nat) (ws : List Wr) : List Ent := (List.range ws.length).map fun i => ⟨(f i).1, vl (ws.getD i zw).1, (f i).2 * 3, t⟩
inductive WRowsIn : List Ent → TypeId → (Nat → Option Addr × Nat) → List Wr → Prop
  | here {t : TypeId} {f : Nat → Option Addr × Nat} {ws : List Wr} {O : List Ent} : WRowsIn (wrents t f ws ++ O) t f ws
  | last {t : TypeId} {f : Nat → Option Addr × Nat} {ws : List Wr} : WRowsIn (wrents t f ws) t f ws
  | there {t : TypeId} {f : Nat → Option Addr × Nat} {ws : List Wr} {e : Ent} {O : List Ent} : WRowsIn O t f ws → WRowsIn (e :: O) t f ws
  | thereS {t : TypeId} {f : Nat → Option Addr × Nat} {ws : List Wr} {S O : List Ent} : WRowsIn O t f ws → WRowsIn (S ++ O) t f ws
def Cans3 (vs : List V3) : Prop := ∀ v ∈ vs, Can3 v
theorem Cans3.row {vs : List V3} (h : Cans3 vs) {k : Nat} (hk : k < vs.length) : Can3 (vs.getD k z3) := h _ (by simp [hk])
def CansW (ws : List Wr) : Prop := ∀ w ∈ ws, Cans3 w.1 ∧ Can .f32 w.2.2
theorem CansW.row {ws : List Wr} (h : CansW ws) {k : Nat} (hk : k < ws.length) : Cans3 (ws.getD k zw).1 ∧ Can .f32 (ws.getD k zw).2.2 := h _ (by simp [hk])
section
variable {P : Program} {n : Nat} {w0 : World} {O : List Ent} {E : Env} {o : Oper}
end
section
variable {ps : List V3} {cl : Bool} {cur : Nat}
end
end Go.Proofs.Ytgeflnjjppgooaa

namespace Go.Proofs.Ytgeflnjjppgooaa
open Go.RowKit
def sl : List (V3 × V3) → List Value
  | [] => []
  | s :: ss => .float .f32 s.1.1 :: .float .f32 s.1.2.1 :: .float .f32 s.1.2.2 :: .float .f32 s.2.1 :: .float .f32 s.2.2.1 :: .float .f32 s.2.2.2 :: sl ss
theorem tmod_nat (i n : Nat) : ((i : Int) + 1).tmod (n : Int) = (((i + 1) % n : Nat) : Int) := by
  rw [show ((i : Int) + 1) = ((i + 1 : Nat) : Int) by omega]
  exact (Int.ofNat_tmod _ _).symm
section
variable {P : Program} {n : Nat} {w0 : World} {O : List Ent} {E : Env} {o : Oper}
end
end Go.Proofs.Ytgeflnjjppgooaa

namespace Go.Proofs.Ytgeflnjjppgooaa
open Go.RowKit
theorem log2_lt' {m k : Nat} (h : m < 2 ^ k) (hk : 0 < k) : m.log2 < k := by
  rcases Nat.eq_zero_or_pos m with h0 | h0
  · subst h0; simpa using hk
  · exact (Nat.log2_lt (by omega)).2 h
theorem lt_log2 (m : Nat) : m < 2 ^ (m.log2 + 1) := Nat.lt_log2_self
theorem log2_mono {a b : Nat} (h : a ≤ b) : a.log2 ≤ b.log2 := by
  rcases Nat.eq_zero_or_pos a with h0 | h0
  · subst h0; simp
  · have := Nat.log2_self_le (n := a) (by omega)
    have h2 : 2 ^ a.log2 < 2 ^ (b.log2 + 1) := Nat.lt_of_le_of_lt this (Nat.lt_of_le_of_lt h (lt_log2 b))
    have := (Nat.pow_lt_pow_iff_right (a := 2) (by decide)).1 h2
    omega
/-- A number by the scale. -/
def qf (s x : Nat) : Nat := fround (fop .mul .f64 4674736138332667904 (fop .quo .f64 (up x) (up s)))
end Go.Proofs.Ytgeflnjjppgooaa

namespace Go.Proofs.Ytgeflnjjppgooaa
open Go.RowKit
/-- The address of a part. -/
def slA (a : Option Addr) (l mm z : Nat) : Option Addr := if mm = l then a else a.map (·.add (l * z))
theorem Cl.part {w : World} {a : Option Addr} {us : List Value} (h : Cl w a us) {l hh mm z : Nat} (h1 : hh ≤ mm) : Cl w (slA a l mm z) ((us.drop (l * z)).take ((hh - l) * z)) := by
  by_cases hm : mm = l
  · have : hh - l = 0 := by omega
    rw [this, Nat.zero_mul, List.take_zero]
    exact .inl rfl
  · unfold slA
    rw [if_neg hm]
    rcases h with h | ⟨p, rfl, hsp, h⟩
    · subst h; simp; exact .inl rfl
    · refine .inr ⟨p.add (l * z), rfl, ?_, fun i u hu => ?_⟩
      · rw [adr_add hsp]; rfl
      · rw [List.getElem?_take] at hu
        split at hu
        · rw [List.getElem?_drop] at hu
          obtain ⟨v, hv, he⟩ := h _ _ hu
          refine ⟨v, ?_, he⟩
          rw [adr_add hsp]
          simp only [adr]
          rw [show p.off + l * z + i = p.off + (l * z + i) by omega]
          exact hv
        · cases hu
theorem Sees.part {w0 : World} {O : List Ent} {a : Option Addr} {us : List Value} (h : Sees w0 O a us) {l hh mm z : Nat} (h1 : hh ≤ mm) : Sees w0 O (slA a l mm z) ((us.drop (l * z)).take ((hh - l) * z)) := fun w hw => (h w hw).part h1
section
variable {P : Program} {n : Nat} {w0 : World} {O : List Ent} {E : Env} {o : Oper}
/-- A row of cells is written into a block that is known. -/
theorem Hp.write {A B : List Ent} {a : Option Addr} {us : List Value} {cap : Nat} {ty : TypeId} {w : World} (hw : Hp w0 (A ++ ⟨a, us, cap, ty⟩ :: B) w) (vs : List Value) (k : Nat) (hs : vs.all scal = true) (hk : k + vs.length ≤ us.length) (hne : vs ≠ []) :
    ∃ w', (storeCells (adr a k) vs).run P w = .ok () w' ∧ Hp w0 (A ++ ⟨a, setAt us k (vs.map cn), cap, ty⟩ :: B) w' := by
  have hent := hw.ents ⟨a, us, cap, ty⟩ (by simp)
  have hl : 0 < vs.length := List.length_pos_iff.2 hne
  have hcap : cap ≠ 0 := by
    rcases hent with h | ⟨_, _, _, _, _, _, h5, _⟩
    · have := h.1; simp only at this; subst this; simp only [List.length_nil] at hk; omega
    · simp only at h5; omega
  obtain ⟨b0, hb0, hge⟩ := hent.addr hcap
  obtain ⟨b, w', r1, r2, r3, r4⟩ := run_storeCells_ent (P := P) vs us 0 k w a cap ty hs (by omega) hent
  have hbb : b = b0 := by
    have := r2 hne
    simp only at hb0
    rw [this] at hb0
    simpa using hb0
  subst hbb
  refine ⟨w', r1, ?_⟩
  simp only [Nat.add_zero] at r4
  exact Hp.turn hw (fun _ => ⟨_, hb0, rfl⟩) hge (fun h => absurd h hcap) r3 r4 (fun _ p hp => .inl (by simp only at hp hb0; rw [hb0] at hp; cases hp; rfl))
theorem Sees.take {a : Option Addr} {us : List Value} (q : Nat) (h : Sees w0 O a us) : Sees w0 O a (us.take q) := fun w hw => (h w hw).sub _ (fun i u hu => by
  rw [List.getElem?_take] at hu
  split at hu
  · exact hu
  · cases hu)
theorem Sees.drop {b : Nat} {us : List Value} (q : Nat) (h : Sees w0 O (some ⟨b, 0, none⟩) us) : Sees w0 O (some (adr (some ⟨b, 0, none⟩) q)) (us.drop q) := fun w hw => by
  rcases h w hw with h | ⟨p, hp, hsp, h⟩
  · subst h; simp; exact .inl rfl
  · cases hp
    refine .inr ⟨_, rfl, rfl, fun i u hu => ?_⟩
    rw [List.getElem?_drop] at hu
    obtain ⟨v, hv, he⟩ := h _ _ hu
    refine ⟨v, ?_, he⟩
    simp only [adr, Nat.zero_add] at hv ⊢
    exact hv
end
end Go.Proofs.Ytgeflnjjppgooaa

namespace Go.Proofs.Ytgeflnjjppgooaa
open Go.RowKit
/-- bytes in memory; a text of bytes -/
def bl (bs : List Int) : List Value := bs.map (Value.int .u8)
def stb (bs : List Int) : ByteArray := ⟨(bs.map fun n => UInt8.ofNat n.toNat).toArray⟩
theorem bl_length (bs : List Int) : (bl bs).length = bs.length := by simp [bl]
/-- two texts compared -/
def scmp (op : BinOp) (a b : ByteArray) : Bool := match op with | .eql => a.toList == b.toList | _ => !(a.toList == b.toList)
@[simp] theorem scmp_ne_self (a : ByteArray) : scmp .neq a a = false := by simp [scmp]
@[simp] theorem scmp_eq_self (a : ByteArray) : scmp .eql a a = true := by simp [scmp]
section
variable {P : Program} {w0 : World} {O : List Ent} {E : Env} {o : Oper}
theorem Frz.freeze {w : World} {b : Nat} {c : Array Value} {ty : TypeId} (hty : ty = 5) (h : Frz w b c ty) : Frz (w.freeze ⟨b, c.size, none⟩ 1) b c ty := by
  obtain ⟨z, h, hz⟩ := h
  refine ⟨(c.size, c.size + 1), ?_, .inr ⟨hty, rfl⟩⟩
  unfold World.freeze
  rw [if_neg (by decide)]
  simp only [Array.getElem?_modify, h]
  rcases hz with rfl | ⟨_, rfl⟩
  · simp
  · simp
theorem freeze_other {w : World} {b n k : Nat} (hk : k ≠ b) : (w.freeze ⟨b, n, none⟩ 1).heap[k]? = w.heap[k]? := by
  unfold World.freeze
  rw [if_neg (by decide)]
  simp only [Array.getElem?_modify]
  rw [if_neg (fun h => hk h.symm)]
theorem Hp.freeze {w : World} {b : Nat} {c : Array Value} {ty : TypeId} (hty : ty = 5) (hw : Hp w0 O w) (hb : w0.heap.size ≤ b) (h : Frz w b c ty) : Hp w0 O (w.freeze ⟨b, c.size, none⟩ 1) := by
  have ht : Turns w b (w.freeze ⟨b, c.size, none⟩ 1) := by
    refine ⟨?_, ?_, ?_, ?_, fun k _ hk => freeze_other hk⟩ <;> (unfold World.freeze; rw [if_neg (by decide)])
    simp
  refine ⟨Below.of_turns hw.below ht hb, fun e he => ?_, hw.apart⟩
  rcases hw.ents e he with h1 | ⟨b', c', h1, h2, h3, h4⟩
  · exact .inl h1
  · refine .inr ⟨b', c', h1, h2, ?_, h4⟩
    by_cases hbb : b' = b
    · subst hbb
      have hcc : c' = c ∧ e.ty = ty := by
        obtain ⟨z, g1, _⟩ := h
        obtain ⟨z', g2, _⟩ := h3
        rw [g1] at g2
        injection g2 with g2
        injection g2 with g2 g3
        exact ⟨g2.symm, g3.symm⟩
      rw [hcc.1, hcc.2]
      exact h.freeze hty
    · exact h3.same (freeze_other hbb)
end
end Go.Proofs.Ytgeflnjjppgooaa

namespace Go.Proofs.Ytgeflnjjppgooaa
open Go.RowKit
def szOk (wi hi de : Int) : Bool := decide (1 ≤ wi ∧ wi ≤ 216) && decide (1 ≤ hi ∧ hi ≤ 216) && decide (1 ≤ de ∧ de ≤ 216) && decide (wi * hi * de ≤ 216)
def meshOk (f : V3) (st : Nat) (wi hi de : Int) (n : Nat) : Bool := fin3 f && above st && szOk wi hi de && decide ((n : Int) = wi * hi * de)
section
variable {wi hi de : Int} {f : V3} {st n : Nat}
end
section
variable {W H D x y z j : Nat}
end
section
variable {P : Program} {n : Nat} {w0 : World} {O : List Ent} {E : Env} {o : Oper}
theorem Pick.e4 {O1 O2 O3 F : List Ent} {e1 e2 e3 e4 : Ent} (h1 : Rem O [e1] O1) (h2 : Rem O1 [e2] O2) (h3 : Rem O2 [e3] O3) (h4 : Rem O3 [e4] F) : Pick O [e1, e2, e3, e4] F := Pick.take h1 (Pick.take h2 (Pick.take h3 (Pick.take h4 .nil)))
end
section
variable {vs : List V3} {W H D tw x y z j k a b : Nat}
end
section
variable {f : V3} {st : Nat} {wi hi de : Int} {vs : List V3}
end
end Go.Proofs.Ytgeflnjjppgooaa

namespace Go.Proofs.Ytgeflnjjppgooaa
open Go.RowKit
/-- The greater of what it was and the number without its sign. -/
def scN (s x : Nat) : Nat := if fcmp .gtr .f32 (fabs .f32 x) s then fabs .f32 x else s
section
variable {P : Program} {E : Env} {o : Oper}
end
end Go.Proofs.Ytgeflnjjppgooaa

namespace Go.Proofs.Ytgeflnjjppgooaa
open Go.RowKit
def w8 (i : Int) : Int := IntKind.u8.wrap i
def four (x : Nat) : List Int := [w8 (x : Int), w8 ((x / 256 : Nat) : Int), w8 ((x / 65536 : Nat) : Int), w8 ((x / 16777216 : Nat) : Int)]
def num (vs : List V3) (k : Nat) : Nat := if k % 3 = 0 then (vs.getD (k / 3) z3).1 else if k % 3 = 1 then (vs.getD (k / 3) z3).2.1 else (vs.getD (k / 3) z3).2.2
def scU (vs : List V3) : Nat → Nat
  | 0 => 0
  | k + 1 => scN (scU vs k) (num vs k)
def allF (vs : List V3) : Nat → Bool
  | 0 => true
  | k + 1 => allF vs k && fin (num vs k)
def qI (s x : Nat) : Int := (floatToIntVal .f64 (qf s x) .i64).getD 0
def qz (s x : Nat) : Int := if fcmp .gtr .f32 s 0 then qI s x else 0
def bodyU (vs : List V3) (s : Nat) : Nat → List Int
  | 0 => []
  | k + 1 => bodyU vs s k ++ [w8 (qz s (num vs k)), w8 ((qz s (num vs k)).fdiv 256)]
def topL (f : V3) (st : Nat) (wi hi de : Int) (s : Nat) : List Int := [77, 83, 72, 49] ++ [w8 wi, w8 hi, w8 de] ++ four f.1 ++ four f.2.1 ++ four f.2.2 ++ four st ++ four s
def pkL (f : V3) (st : Nat) (wi hi de : Int) (vs : List V3) : List Int := topL f st wi hi de (scU vs (vs.length * 3)) ++ bodyU vs (scU vs (vs.length * 3)) (vs.length * 3)
section
variable {vs : List V3} {k j s : Nat}
end
section
variable {f : V3} {st : Nat} {wi hi de : Int} {vs : List V3}
end
section
variable {vs : List V3} {k i j p s : Nat}
end
theorem Pick.p3 {O1 O2 O F : List Ent} {e1 e2 e3 : Ent} (h1 : Rem O [e1] O1) (h2 : Rem O1 [e2] O2) (h3 : Rem O2 [e3] F) : Pick O [e1, e2, e3] F := Pick.take h1 (Pick.take h2 (Pick.take h3 .nil))
end Go.Proofs.Ytgeflnjjppgooaa

namespace Go.Proofs.Ytgeflnjjppgooaa
open Go.RowKit
theorem cut_even_le (s : Bool) {n d q : Nat} (h : n ≤ q * 2 ^ d) : Ieee.Toward.even.cut s n d ≤ q := by
  unfold Ieee.Toward.cut
  simp only [Nat.shiftLeft_eq, Nat.one_mul]
  by_cases hd : d ≤ n.log2 + 2
  · rw [Nat.min_eq_left hd]
    have hp := pow_pos' d
    have hlow : n / 2 ^ d ≤ q := Nat.div_le_of_le_mul (by rw [Nat.mul_comm]; exact h)
    rcases Nat.lt_or_eq_of_le hlow with hlt | heq
    · have : (decide (2 ^ d < 2 * (n % 2 ^ d)) || (2 ^ d == 2 * (n % 2 ^ d) && n / 2 ^ d % 2 == 1)).toNat ≤ 1 := Bool.toNat_le _
      omega
    · have hr : n % 2 ^ d = 0 := by
        have := Nat.div_add_mod n (2 ^ d)
        rw [heq, Nat.mul_comm] at this
        omega
      rw [heq, hr]
      have h1 : decide (2 ^ d < 2 * 0) = false := decide_eq_false (by omega)
      have h2 : (2 ^ d == 2 * 0) = false := by rw [beq_eq_false_iff_ne]; omega
      rw [h1, h2]
      simp
  · rw [Nat.min_eq_right (by omega)]
    have hlt : n < 2 ^ (n.log2 + 2) := Nat.lt_of_lt_of_le (lt_log2 n) (Nat.pow_le_pow_right (by decide) (by omega))
    have h2 : 2 * n < 2 ^ (n.log2 + 2) := by
      have := lt_log2 n
      rw [Nat.pow_succ]
      omega
    rw [Nat.div_eq_of_lt hlt, Nat.mod_eq_of_lt hlt]
    have h3 : decide (2 ^ (n.log2 + 2) < 2 * n) = false := decide_eq_false (by omega)
    have h4 : (2 ^ (n.log2 + 2) == 2 * n) = false := by rw [beq_eq_false_iff_ne]; omega
    rw [h3, h4]
    simp
/-- What is not greater than the number of a word is written as no greater word. -/
theorem nearest_le (f : Ieee.Format) (s : Bool) {m r a b : Nat} {e : Int} (he : e + a = f.leastPlace + b) (h : m * 2 ^ b ≤ units f r * 2 ^ a) : ∃ r', f.nearest s m e = f.word s r' ∧ r' ≤ r := by
  unfold Ieee.Format.nearest
  by_cases hm : m = 0
  · rw [if_pos hm]; exact ⟨0, rfl, Nat.zero_le _⟩
  rw [if_neg hm]
  refine ⟨_, rfl, Nat.le_trans (Nat.min_le_left _ _) ?_⟩
  have hmb : 0 < m * 2 ^ b := Nat.mul_pos (by omega) (pow_pos' b)
  have hu : units f r ≠ 0 := by
    intro h0
    rw [h0, Nat.zero_mul] at h
    omega
  have hl : m.log2 + b ≤ (units f r).log2 + a := by
    have := log2_mono h
    rwa [log2_mul_pow hm b, log2_mul_pow hu a] at this
  have hb : 0 < f.binade := pow_pos' _
  have hbe : f.binade = 2 ^ f.fractionBits := rfl
  have key : ∀ (q t : Nat), m * 2 ^ b ≤ q * 2 ^ t * 2 ^ a → Ieee.Toward.even.cut s (m <<< (e - (f.leastPlace + t)).toNat) ((f.leastPlace + t) - e).toNat ≤ q := by
    intro q t hqt
    rw [Nat.mul_assoc, ← Nat.pow_add] at hqt
    rcases Nat.le_total (t + a) b with hle | hle
    · have e1 : (e - (f.leastPlace + t)).toNat = b - (t + a) := by omega
      have e2 : ((f.leastPlace + t) - e).toNat = 0 := by omega
      rw [e1, e2, cut_zero, shl_eq]
      have : b = (b - (t + a)) + (t + a) := by omega
      rw [this, Nat.pow_add, ← Nat.mul_assoc] at hqt
      exact Nat.le_of_mul_le_mul_right hqt (pow_pos' _)
    · have e1 : (e - (f.leastPlace + t)).toNat = 0 := by omega
      have e2 : ((f.leastPlace + t) - e).toNat = t + a - b := by omega
      have : t + a = (t + a - b) + b := by omega
      rw [this, Nat.pow_add, ← Nat.mul_assoc] at hqt
      have hm' := Nat.le_of_mul_le_mul_right hqt (pow_pos' b)
      rw [e1, e2, shl_eq, Nat.pow_zero, Nat.mul_one]
      exact cut_even_le s hm'
  by_cases hrb : r < f.binade
  · have hur : units f r = r := by unfold units; rw [if_pos hrb]
    have hr0 : r ≠ 0 := by rw [← hur]; exact hu
    have hlg : (units f r).log2 < f.fractionBits := by
      rw [hur]
      exact (Nat.log2_lt hr0).2 hrb
    have hlast : max (e + (m.log2 : Int) - (f.fractionBits : Int)) f.leastPlace = f.leastPlace + ((0 : Nat) : Int) := by omega
    simp only [hlast]
    have hk := key r 0 (by rw [Nat.pow_zero, Nat.mul_one, ← hur]; exact h)
    have e0 : (f.leastPlace + ((0 : Nat) : Int) - f.leastPlace).toNat = 0 := by omega
    rw [e0, Nat.zero_mul, Nat.zero_add]
    exact hk
  · have hq1 : 1 ≤ r / f.binade := (Nat.le_div_iff_mul_le hb).2 (by omega)
    have hmod := Nat.mod_lt r hb
    have hur : units f r = (f.binade + r % f.binade) * 2 ^ (r / f.binade - 1) := by unfold units; rw [if_neg hrb]
    have hqne : f.binade + r % f.binade ≠ 0 := by omega
    have hlg : (units f r).log2 = f.fractionBits + (r / f.binade - 1) := by
      rw [hur, log2_mul_pow hqne]
      congr 1
      rw [Nat.log2_eq_iff hqne]
      rw [Nat.pow_succ, ← hbe]
      omega
    obtain ⟨t, ht⟩ : ∃ t : Nat, max (e + (m.log2 : Int) - (f.fractionBits : Int)) f.leastPlace = f.leastPlace + (t : Int) :=
      ⟨(max (e + (m.log2 : Int) - (f.fractionBits : Int)) f.leastPlace - f.leastPlace).toNat, by omega⟩
    have htT : t ≤ r / f.binade - 1 := by omega
    have hkl := kept_le s (m := m) (f := f.fractionBits) (place := e) (last := max (e + (m.log2 : Int) - (f.fractionBits : Int)) f.leastPlace) (Int.le_max_left _ _)
    simp only [ht] at hkl ⊢
    have e1 : (f.leastPlace + (t : Int) - f.leastPlace).toNat = t := by omega
    rw [e1]
    have e2 := Nat.div_add_mod r f.binade
    rw [Nat.mul_comm] at e2
    rcases Nat.lt_or_eq_of_le htT with hlt | heq
    · have h4 : 2 ^ (f.fractionBits + 1) = 2 * f.binade := by rw [Nat.pow_succ, Nat.mul_comm, hbe]
      rw [h4] at hkl
      have h5 : (t + 2) * f.binade ≤ r / f.binade * f.binade := Nat.mul_le_mul_right _ (by omega)
      rw [Nat.add_mul] at h5
      omega
    · have hk := key (f.binade + r % f.binade) t (by rw [heq, ← hur]; exact h)
      have h5 : (t + 1) * f.binade = r / f.binade * f.binade := by congr 1; omega
      rw [Nat.add_mul, Nat.one_mul] at h5
      omega
end Go.Proofs.Ytgeflnjjppgooaa

namespace Go.Proofs.Ytgeflnjjppgooaa
open Go.RowKit
def r1 : Nat := 4607182418800017408
def u1 : Nat := units Ieee.double r1
theorem units_mono (f : Ieee.Format) {r t : Nat} (h : r ≤ t) : units f r ≤ units f t := by
  have hb : 0 < f.binade := pow_pos' _
  rcases Nat.lt_or_ge t f.binade with ht | ht
  · have hr : r < f.binade := by omega
    unfold units
    rw [if_pos hr, if_pos ht]; exact h
  · obtain ⟨t1, t2⟩ := units_bounds f ht
    rcases Nat.lt_or_ge r f.binade with hr | hr
    · have hur : units f r = r := by unfold units; rw [if_pos hr]
      rw [hur]
      exact Nat.le_trans (Nat.le_of_lt hr) (Nat.le_trans (Nat.le_mul_of_pos_right _ (pow_pos' _)) t1)
    · obtain ⟨s1, s2⟩ := units_bounds f hr
      have hd : r / f.binade ≤ t / f.binade := Nat.div_le_div_right h
      rcases Nat.lt_or_eq_of_le hd with hlt | heq
      · have h3 : f.binade * 2 ^ (r / f.binade) ≤ f.binade * 2 ^ (t / f.binade - 1) := Nat.mul_le_mul_left _ (Nat.pow_le_pow_right (by decide) (by omega))
        omega
      · unfold units
        rw [if_neg (by omega), if_neg (by omega), heq]
        refine Nat.mul_le_mul_right _ ?_
        have e1 := Nat.div_add_mod r f.binade
        have e2 := Nat.div_add_mod t f.binade
        rw [heq] at e1
        omega
end Go.Proofs.Ytgeflnjjppgooaa

namespace Go.Proofs.Ytgeflnjjppgooaa
open Go.RowKit
def rw5 : Nat := 4674736138332667904
end Go.Proofs.Ytgeflnjjppgooaa

namespace Go.Proofs.Ytgeflnjjppgooaa
open Go.RowKit
/-- the byte at a place -/
def sb (s : ByteArray) (i : Nat) : Nat := ((s.data[i]?).getD 0).toNat
section
variable {P : Program} {w0 : World} {O : List Ent} {E : Env} {o : Oper}
end
def rd2 (s : ByteArray) (p : Nat) : Nat := sb s p + sb s (p + 1) * 256
def rd4 (s : ByteArray) (p : Nat) : Nat := sb s p + sb s (p + 1) * 256 + sb s (p + 2) * 65536 + sb s (p + 3) * 16777216
end Go.Proofs.Ytgeflnjjppgooaa

namespace Go.Proofs.Ytgeflnjjppgooaa
open Go.RowKit
/-- A number that is unpacked, before it is narrowed. -/
def unX (s : Nat) (q : Int) : Nat := fop .mul .f64 (up s) (fop .quo .f64 (FloatKind.f64.nearest q) rw5)
end Go.Proofs.Ytgeflnjjppgooaa

namespace Go.Proofs.Ytgeflnjjppgooaa
open Go.RowKit
section
variable {f : V3} {st : Nat} {wi hi de : Int} {vs : List V3} {k : Nat}
end
/-- sixteen bits as a number with a sign -/
def q16 (n : Nat) : Int := if n ≤ 32767 then (n : Int) else (n : Int) - 65536
end Go.Proofs.Ytgeflnjjppgooaa

namespace Go.Proofs.Ytgeflnjjppgooaa
open Go.RowKit
/-- The k-th number of a text. -/
def unV (s : ByteArray) (k : Nat) : Nat := fconv .f64 .f32 (unX (rd4 s 23) (q16 (rd2 s (27 + k * 2))))
def unL (s : ByteArray) (n : Nat) : List V3 := (List.range n).map fun i => (unV s (i * 3), unV s (i * 3 + 1), unV s (i * 3 + 2))
section
variable {f : V3} {st : Nat} {wi hi de : Int} {vs : List V3} {s : ByteArray}
end
section
variable {f : V3} {st : Nat} {wi hi de : Int} {vs : List V3} {s : ByteArray} {n : Nat}
end
end Go.Proofs.Ytgeflnjjppgooaa

namespace Go.Proofs.Ytgeflnjjppgooaa
open Go.RowKit
def mshText : ByteArray := ⟨#[77, 83, 72, 49]⟩
def unN (s : ByteArray) : Nat := sb s 4 * sb s 5 * sb s 6
def unF (s : ByteArray) : V3 := (cb .f32 (rd4 s 7), cb .f32 (rd4 s 11), cb .f32 (rd4 s 15))
def unSt (s : ByteArray) : Nat := cb .f32 (rd4 s 19)
def unPk (s : ByteArray) (vs : List V3) : ByteArray := stb (pkL (unF s) (unSt s) (sb s 4 : Int) (sb s 5 : Int) (sb s 6 : Int) vs)
def unMs (s : ByteArray) : Bool := meshOk (unF s) (unSt s) (sb s 4 : Int) (sb s 5 : Int) (sb s 6 : Int) (unN s)
def unPre (s : ByteArray) : Bool := decide (27 ≤ s.size) && scmp .eql (s.extract 0 4) mshText && decide (unN s ≤ 216) && decide (s.size = 27 + 6 * unN s) && unMs s
def unOk (s : ByteArray) : Bool := unPre s && allF (unL s (unN s)) (unN s * 3) && scmp .eql (unPk s (unL s (unN s))) s
section
variable {s : ByteArray} {i : Nat}
end
section
variable {s : ByteArray} {vs : List V3}
end
end Go.Proofs.Ytgeflnjjppgooaa

namespace Go.Proofs.Ytgeflnjjppgooaa
open Go.RowKit
section
variable {s : ByteArray} {j k i : Nat} {v w : V3} {vs : List V3}
end
section
variable {P : Program} {w0 : World} {O : List Ent} {E : Env} {o : Oper} {s : ByteArray}
end
theorem Pick.e6 {O O1 O2 O3 O4 O5 F : List Ent} {e1 e2 e3 e4 e5 e6 : Ent} (h1 : Rem O [e1] O1) (h2 : Rem O1 [e2] O2) (h3 : Rem O2 [e3] O3) (h4 : Rem O3 [e4] O4) (h5 : Rem O4 [e5] O5) (h6 : Rem O5 [e6] F) : Pick O [e1, e2, e3, e4, e5, e6] F := Pick.take h1 (Pick.take h2 (Pick.take h3 (Pick.take h4 (Pick.take h5 (Pick.take h6 .nil)))))
theorem Hp.nilU {w0 w : World} {O : List Ent} (h : Hp w0 O w) (t : TypeId) : Hp w0 (⟨none, [], 0, t⟩ :: O) w :=
  h.new (Below.refl _ _) (.inl ⟨rfl, rfl⟩)
/-- A mesh that may be none. -/
structure MX where
  f : V3
  st : Nat
  wi : Int
  hi : Int
  de : Int
  ar : Option Addr
  cr : Nat
  vs : List V3
def MX.is (s : ByteArray) (x : MX) : Prop := unOk s = true → x.f = unF s ∧ x.st = unSt s ∧ x.wi = (sb s 4 : Int) ∧ x.hi = (sb s 5 : Int) ∧ x.de = (sb s 6 : Int) ∧ x.vs = unL s (unN s)
def MX.v (x : MX) : Value := .agg #[.float .f32 x.f.1, .float .f32 x.f.2.1, .float .f32 x.f.2.2, .float .f32 x.st, .int .i64 x.wi, .int .i64 x.hi, .int .i64 x.de, .slice x.ar x.vs.length x.cr]
def MX.none : MX := ⟨z3, 0, 0, 0, 0, Option.none, 0, []⟩
end Go.Proofs.Ytgeflnjjppgooaa

namespace Go.Proofs.Ytgeflnjjppgooaa
open Go.RowKit
/-- A quarter: (k - 8) / 4. -/
def qw (k : Nat) : Nat := fop .quo .f32 (FloatKind.f32.nearest ((k : Int) - 8)) 1082130432
def dst (k : Nat) : Nat := if 8 ≤ k then k - 8 else 8 - k
end Go.Proofs.Ytgeflnjjppgooaa

namespace Go.Proofs.Ytgeflnjjppgooaa
open Go.RowKit
theorem bl_get {bs : List Int} {k : Nat} (h : k < bs.length) : (bl bs)[k]? = some (.int .u8 (bs.getD k 0)) := by
  simp [bl, List.getD, h]
def Bytes (bs : List Int) : Prop := ∀ b ∈ bs, 0 ≤ b ∧ b < 256
theorem byte_get {bs : List Int} {k : Nat} (hb : Bytes bs) (h : k < bs.length) : 0 ≤ bs.getD k 0 ∧ bs.getD k 0 < 256 := by
  have : bs.getD k 0 = bs[k] := by simp [List.getD, h]
  rw [this]; exact hb _ (List.getElem_mem h)
def uw (z : Int) : Nat := (IntKind.u64.wrap z).toNat
theorem u64_wrap (z : Int) : IntKind.u64.wrap z = z % 18446744073709551616 := by
  unfold IntKind.wrap; simp [IntKind.signed, IntKind.bits]
theorem u64_to (z : Int) : IntKind.u64.wrap z = ((uw z : Nat) : Int) := by unfold uw; rw [u64_wrap]; omega
theorem uw_lt (z : Int) : uw z < 18446744073709551616 := by unfold uw; rw [u64_wrap]; omega
theorem and255u (q : Int) : IntKind.u64.wrap (((q % 2 ^ IntKind.u64.bits).toNat &&& ((255 : Int) % 2 ^ IntKind.u64.bits).toNat : Nat) : Int) = (((q % 256).toNat : Nat) : Int) := by
  have e1 : ((255 : Int) % 2 ^ IntKind.u64.bits).toNat = 2 ^ 8 - 1 := by decide
  have e2 : (2 : Int) ^ IntKind.u64.bits = 18446744073709551616 := by decide
  rw [e1, Nat.and_two_pow_sub_one_eq_mod, e2, u64_wrap]
  have e3 : (((q % 18446744073709551616).toNat % 2 ^ 8 : Nat) : Int) = q % 256 := by
    rw [show (2 : Nat) ^ 8 = 256 from rfl]; omega
  rw [e3]; omega
/-- A drawn mesh of quarters. -/
structure DM where
  k : Nat
  W : Nat
  H : Nat
  D : Nat
  ar : Option Addr
  cr : Nat
  vs : List V3
def hqw (k : Nat) : Nat := fop .quo .f32 (FloatKind.f32.nearest ((k : Int) - 4)) 1073741824
def Q3 (v : V3) : Prop := ∃ i j l : Nat, (i < 17 ∧ j < 17 ∧ l < 17) ∧ v = (qw i, qw j, qw l)
def DM.ok (x : DM) : Prop := x.k < 9 ∧ (1 ≤ x.W ∧ x.W ≤ 4) ∧ (1 ≤ x.H ∧ x.H ≤ 4) ∧ (1 ≤ x.D ∧ x.D ≤ 3) ∧ x.vs.length = x.W * x.H * x.D ∧ ∀ v ∈ x.vs, Q3 v
section
variable {P : Program} {w0 : World} {E : Env} {o : Oper}
theorem Pick.cons1 {O O1 M F : List Ent} {e : Ent} (h1 : Rem O [e] O1) (h2 : Pick O1 M F) : Pick O (e :: M) F := Pick.take h1 h2
theorem Pick.app1 {O S O1 M F : List Ent} (h1 : Rem O S O1) (h2 : Pick O1 M F) : Pick O (S ++ M) F := Pick.take h1 h2
theorem Pick.last {O S O1 : List Ent} (h1 : Rem O S O1) : Pick O S O1 := by simpa using Pick.take h1 .nil
theorem Pick.e2 {O O1 F : List Ent} {e1 e2 : Ent} (h1 : Rem O [e1] O1) (h2 : Rem O1 [e2] F) : Pick O [e1, e2] F := Pick.take h1 (Pick.take h2 .nil)
theorem Pick.e3x {O O1 O2 F : List Ent} {e1 e2 e3 : Ent} (h1 : Rem O [e1] O1) (h2 : Rem O1 [e2] O2) (h3 : Rem O2 [e3] F) : Pick O [e1, e2, e3] F := Pick.take h1 (Pick.take h2 (Pick.take h3 .nil))
theorem Rem.app {O S O' : List Ent} (R : List Ent) (h : Rem O S O') : Rem (O ++ R) S (O' ++ R) := by
  induction h with
  | here => exact .here
  | hereS => rw [List.append_assoc]; exact .hereS
  | there _ ih => exact .there ih
  | thereS _ ih => rw [List.append_assoc, List.append_assoc]; exact .thereS ih
theorem Pick.appR {O M F : List Ent} (R : List Ent) (h : Pick O M F) : Pick (O ++ R) M (F ++ R) := by
  induction h with
  | nil => exact .nil
  | take h1 _ ih => exact .take (h1.app R) ih
end
end Go.Proofs.Ytgeflnjjppgooaa

namespace Go.Proofs.Ytgeflnjjppgooaa
open Go.RowKit Go.ChangeShapes Go.WideShapes Go.Deep
section
variable {H : Type} {enc : TypeId × Value → H} {P : Program} {w : World} {base : Nat} {spare : Nat → Bool} {held : Bool}
theorem open_u8s {r : Reach} {b0 : Nat} {t e : TypeId} {v : Value} {d : DataW H} {ps : List MemPlace} (ht : P.underlying t = some (.slice e)) (he : P.underlying e = some (.int .u8)) (hc : P.cellsOf e = 1)
    (hval : Value.okWide P w r b0 t v) (hd : DataW.Trod enc P w base spare held t v d ps) :
    ∃ (a : Option Addr) (bs : List Int) (c : Nat), v = .slice a bs.length c ∧ Cl w a (bl bs) ∧ Bytes bs := by
  obtain ⟨a, len, cap, rfl⟩ := okWide_slice ht hval
  obtain ⟨fuel, hd⟩ := hd
  rcases open_slice1 ht hc hd with ⟨h, _⟩ | ⟨a', len', cap', m, n, V, D, Pl, h, hb, hlc, hm, rfl, hx, hV⟩
  · simp only [Value.cells, List.cons.injEq, Value.slice.injEq, and_true] at h
    obtain ⟨rfl, rfl, rfl⟩ := h
    exact ⟨none, [], 0, rfl, .inl rfl, fun b hb => by cases hb⟩
  · simp only [Value.cells, List.cons.injEq, Value.slice.injEq, and_true] at h
    obtain ⟨rfl, rfl, rfl⟩ := h
    have hm' : len ≤ (if spare a'.block then cap else len) := by split <;> omega
    have hfl : ∀ i, i < len → ∃ b : Nat, V i = .int .u8 (b : Int) ∧ b < 256 := by
      intro i hi
      have := (hV i (by omega)).2
      obtain ⟨k, hk, _, h2⟩ := DataW.trod_int he this
      have h3 : (0 : Int) ≤ k ∧ k ≤ 255 := by
        simp only [Lit.wf, Bool.and_eq_true, decide_eq_true_eq] at h2
        exact ⟨h2.1, h2.2⟩
      simp only [List.cons.injEq, and_true] at hk
      refine ⟨k.toNat, ?_, ?_⟩
      · rw [hk]
        rw [Int.toNat_of_nonneg h3.1]
      · omega
    obtain ⟨B, hB⟩ := choose_lt hfl
    refine ⟨some a', (List.range len).map (fun i => ((B i : Nat) : Int)), cap, by simp, ?_, ?_⟩
    · by_cases h0 : len = 0
      · subst h0; exact .inl rfl
      · have hsp : a'.spot = none := by
          have := (hV 0 (by omega)).1
          simpa [Addr.add] using World.cell?_spot this
        obtain ⟨bk, off, spot⟩ := a'
        simp only at hsp
        subst hsp
        refine .inr ⟨_, rfl, rfl, fun i u hu => ?_⟩
        unfold bl at hu
        simp only [List.getElem?_map, Option.map_eq_some_iff, List.map_map] at hu
        obtain ⟨j, hj, rfl⟩ := hu
        obtain ⟨hlt, rfl⟩ := List.getElem?_eq_some_iff.1 hj
        simp only [List.length_range] at hlt
        have h1 := (hV i (by omega)).1
        rw [add_plain] at h1
        refine ⟨V i, h1, ?_⟩
        rw [(hB i hlt).1]
        simp [cn, cn1, cn0]
    · intro x hx
      obtain ⟨i, hi, rfl⟩ := List.mem_map.1 hx
      have := (hB i (by simpa using hi)).2
      omega
end
end Go.Proofs.Ytgeflnjjppgooaa

namespace Go.Proofs.Ytgeflnjjppgooaa
open Go
/-- No entry of these marks is the one that makes deaf, or the one that makes hear. -/
def okMark (m : Mark) : Prop := m ≠ .disable ∧ m ≠ .enable
def NM {α : Type} : Sem α → Prop
  | .pure _ => True
  | .halt _ => True
  | .load _ _ k => ∀ v, NM (k v)
  | .store _ _ _ k => NM k
  | .new _ k => ∀ r, NM (k r)
  | .shape _ k => ∀ s, NM (k s)
  | .freeze _ _ k => NM k
  | .frozen _ k => ∀ b, NM (k b)
  | .getObj _ k => ∀ o, NM (k o)
  | .setObj _ _ k => NM k
  | .choose _ k => ∀ n, NM (k n)
  | .sys _ k => ∀ r, NM (k r)
  | .program k => ∀ p, NM (k p)
  | .mark m k => okMark m ∧ NM k
/-- What is listed. -/
def okEv (e : Event) : Prop := e.loc ≠ .mark .disable ∧ e.loc ≠ .mark .enable
theorem NM.events {α : Type} {x : Sem α} (hx : NM x) (P : Program) : ∀ (w : World) (es : Array Event), (∀ e ∈ es, okEv e) → ∀ e ∈ x.events P w es, okEv e := by
  have push : ∀ (es : Array Event) (e' : Event), okEv e' → (∀ e ∈ es, okEv e) → ∀ e ∈ es.push e', okEv e := fun es e' h' h e he => by
    rcases Array.mem_push.1 he with he | rfl
    · exact h e he
    · exact h'
  have app : ∀ (es : Array Event) (l : List Addr) (wr sy : Bool), (∀ e ∈ es, okEv e) → ∀ e ∈ es ++ l.toArray.map (fun a => (⟨.cell a, wr, sy⟩ : Event)), okEv e := fun es l wr sy h e he => by
    rcases Array.mem_append.1 he with he | he
    · exact h e he
    · obtain ⟨a, _, rfl⟩ := Array.mem_map.1 he
      exact ⟨by simp, by simp⟩
  have c : ∀ a wr sy, okEv ⟨.cell a, wr, sy⟩ := fun _ _ _ => ⟨by simp, by simp⟩
  induction x with
  | pure a => intro w es h; exact h
  | halt a => intro w es h; exact h
  | load m a k ih =>
    intro w es h
    unfold Sem.events
    simp only [Sem.runT]
    split
    · exact ih _ (hx _) _ _ (push _ _ (c _ _ _) h)
    · split
      · exact ih _ (hx _) _ _ (app _ _ _ _ h)
      · exact h
  | store m a v k ih =>
    intro w es h
    unfold Sem.events
    cases v <;> simp only [Sem.runT] <;> first
      | exact h
      | (split <;> split <;> first
          | exact h
          | exact ih hx _ _ (push _ _ (c _ _ _) h)
          | exact ih hx _ _ (app _ _ _ _ h))
  | new o k ih => intro w es h; exact ih _ (hx _) _ _ h
  | shape r k ih => intro w es h; exact ih _ (hx _) _ _ h
  | freeze a n k ih => intro w es h; exact ih hx _ _ h
  | frozen a k ih => intro w es h; exact ih _ (hx _) _ _ h
  | getObj r k ih =>
    intro w es h
    unfold Sem.events
    simp only [Sem.runT]
    split
    · exact h
    · exact ih _ (hx _) _ _ (push _ _ ⟨by simp, by simp⟩ h)
    · exact h
  | setObj r o k ih =>
    intro w es h
    unfold Sem.events
    simp only [Sem.runT]
    split
    · exact h
    · exact ih hx _ _ (push _ _ ⟨by simp, by simp⟩ h)
    · exact h
  | choose q k ih =>
    intro w es h
    unfold Sem.events
    simp only [Sem.runT]
    split
    · exact ih _ (hx _) _ _ h
    · exact ih _ (hx _) _ _ h
  | sys s k ih => intro w es h; exact ih _ (hx _) _ _ (push _ _ ⟨by simp, by simp⟩ h)
  | program k ih => intro w es h; exact ih _ (hx _) _ _ h
  | mark m k ih => intro w es h; exact ih hx.2 _ _ (push _ _ ⟨fun e => hx.1.1 (by simpa using e), fun e => hx.1.2 (by simpa using e)⟩ h)
end Go.Proofs.Ytgeflnjjppgooaa

namespace Go.Proofs.Ytgeflnjjppgooaa
open Go
/-- How a block stands in a view, and in the world. -/
inductive BR (b : Nat) : Option Obj → Option Obj → Prop
  | same {x : Option Obj} (h : ∀ a t, x ≠ some (.view a t)) : BR b x x
  | view {a : Addr} {t : TypeId} : BR b (some (.view ⟨b, 0, none⟩ 0)) (some (.view a t))
  | dead {c : Array Value} {ty : TypeId} {z : Nat × Nat} : BR b (some (.cells #[] ty (0, 0))) (some (.cells c ty z))
  | fro {c : Array Value} {ty : TypeId} {z : Nat × Nat} : BR b (some (.cells c ty (0, c.size))) (some (.cells c ty z))
structure View (v w : World) : Prop where
  rest : w = { v with heap := w.heap }
  size : v.heap.size = w.heap.size
  blk : ∀ b : Nat, BR b v.heap[b]? w.heap[b]?
/-- A cell of the block may be written. -/
def Liv (v : World) (b : Nat) : Prop := ∃ c ty z, v.heap[b]? = some (.cells c ty z) ∧ c ≠ #[] ∧ z ≠ (0, c.size)
/-- .. may be read. -/
def Rdb (v : World) (b : Nat) : Prop := ∃ c ty z, v.heap[b]? = some (.cells c ty z) ∧ c ≠ #[]
theorem Liv.rdb {v : World} {b : Nat} (h : Liv v b) : Rdb v b := let ⟨c, ty, z, h1, h2, _⟩ := h; ⟨c, ty, z, h1, h2⟩
/-- A block that is no row of cells. -/
def Odd (v : World) (b : Nat) : Prop := ∃ o, v.heap[b]? = some o ∧ ∀ c ty z, o ≠ .cells c ty z
/-- What may be listed: v as it was ahead, B: the count of blocks behind. -/
def EvOk (v : World) (B : Nat) (e : Event) : Prop :=
  match e.loc with
  | .cell a => a.block < B ∧ (v.heap.size ≤ a.block ∨ (if e.write = true then Liv v a.block else Rdb v a.block))
  | .obj r => e.write = false ∧ r < B ∧ (v.heap.size ≤ r ∨ Odd v r)
  | .mark m => m = .noRoom ∨ ∃ f, m = .extern f
  | _ => False
structure Chg (v v' w w' : World) : Prop where
  view : View v' w'
  grow : v.heap.size ≤ v'.heap.size
  same : ∀ b : Nat, v.heap[b]? = w.heap[b]? → v'.heap[b]? = w'.heap[b]?
  keep : ∀ b : Nat, b < v.heap.size → ¬ Liv v b → v'.heap[b]? = v.heap[b]? ∧ w'.heap[b]? = w.heap[b]?
  odd : ∀ b : Nat, b < v.heap.size → (Odd v' b ↔ Odd v b)
  tape : v'.tape = v.tape
  os : v'.os = v.os
  output : v'.output = v.output
  kind : ∀ (b : Nat) c ty z, v.heap[b]? = some (.cells c ty z) → ∃ c' z', v'.heap[b]? = some (.cells c' ty z')
  stay : ∀ b, Liv v b → Liv v' b
section
variable {v v' v'' w w' w'' : World}
theorem View.at (h : View v w) (d : Nat) : View (v.at d) (w.at d) := ⟨by rw [h.rest]; rfl, h.size, h.blk⟩
theorem Chg.refl (h : View v w) : Chg v v w w := ⟨h, Nat.le_refl _, fun _ h => h, fun _ _ _ => ⟨rfl, rfl⟩, fun _ _ => Iff.rfl, rfl, rfl, rfl, fun _ c _ z h => ⟨c, z, h⟩, fun _ h => h⟩
theorem Chg.liv (h : Chg v v' w w') {b : Nat} (hb : b < v.heap.size) (hl : Liv v' b) : Liv v b := by
  refine Classical.byContradiction fun hn => hn ?_
  obtain ⟨c, ty, z, h1, h2, h3⟩ := hl
  exact ⟨c, ty, z, ((h.keep b hb hn).1.symm.trans h1), h2, h3⟩
theorem Chg.rdb (h : Chg v v' w w') {b : Nat} (hb : b < v.heap.size) (hl : Rdb v' b) : Rdb v b := by
  by_cases hn : Liv v b
  · exact hn.rdb
  · obtain ⟨c, ty, z, h1, h2⟩ := hl
    exact ⟨c, ty, z, ((h.keep b hb hn).1.symm.trans h1), h2⟩
theorem Chg.trans (h : Chg v v' w w') (k : Chg v' v'' w' w'') : Chg v v'' w w'' := by
  refine ⟨k.view, Nat.le_trans h.grow k.grow, fun b hb => k.same b (h.same b hb), fun b hb hn => ?_, fun b hb => (k.odd b (Nat.lt_of_lt_of_le hb h.grow)).trans (h.odd b hb), k.tape.trans h.tape, k.os.trans h.os, k.output.trans h.output, fun b c ty z hb => let ⟨_, _, h1⟩ := h.kind b c ty z hb; k.kind b _ ty _ h1, fun b hb => k.stay b (h.stay b hb)⟩
  have h1 := h.keep b hb hn
  have h2 := k.keep b (Nat.lt_of_lt_of_le hb h.grow) (fun hl => hn (h.liv hb hl))
  exact ⟨h2.1.trans h1.1, h2.2.trans h1.2⟩
theorem EvOk.mono {B B' : Nat} {e : Event} (h : EvOk v B e) (hB : B ≤ B') : EvOk v B' e := by
  unfold EvOk at h ⊢
  split <;> simp_all <;> omega
theorem EvOk.back (h : Chg v v' w w') {B : Nat} {e : Event} (he : EvOk v' B e) : EvOk v B e := by
  unfold EvOk at he ⊢
  split
  · rename_i a ha
    rw [ha] at he
    refine ⟨he.1, ?_⟩
    rcases Nat.lt_or_ge a.block v.heap.size with hlt | hge
    · refine .inr ?_
      rcases he.2 with h1 | h1
      · have := h.grow; omega
      · split at h1
        · rename_i hw; rw [if_pos hw]; exact h.liv hlt h1
        · rename_i hw; rw [if_neg hw]; exact h.rdb hlt h1
    · exact .inl hge
  · rename_i r hr
    rw [hr] at he
    refine ⟨he.1, he.2.1, ?_⟩
    rcases Nat.lt_or_ge r v.heap.size with hlt | hge
    · rcases he.2.2 with h1 | h1
      · have := h.grow; omega
      · exact .inr ((h.odd r hlt).1 h1)
    · exact .inl hge
  · rename_i m hm; rw [hm] at he; exact he
  · rename_i h1 h2 h3
    cases hl : e.loc <;> rw [hl] at he <;> first | exact he | exact absurd hl (h1 _) | exact absurd hl (h2 _) | exact absurd hl (h3 _)
end
/-- What runs in a view runs in the world. -/
def FR (P : Program) {α : Type} (x : Sem α) : Prop :=
  ∀ v w, View v w → ∀ a v', x.run P v = .ok a v' → ∃ w', x.run P w = .ok a w' ∧ Chg v v' w w' ∧ ∀ es, ∀ e ∈ x.events P w es, e ∈ es ∨ EvOk v v'.heap.size e
section
variable {P : Program} {α β : Type}
theorem FR.pure (a : α) : FR P (Pure.pure a : Sem α) := fun v w h b v' hr => by
  simp only [Sem.run_pure, Result.ok.injEq] at hr
  obtain ⟨rfl, rfl⟩ := hr
  exact ⟨w, by simp, .refl h, fun es e he => .inl (by simpa using he)⟩
theorem FR.halt (x : Halt) : FR P (.halt x : Sem α) := fun v w h b v' hr => by simp [Sem.run] at hr
theorem FR.bind {x : Sem α} {f : α → Sem β} (hx : FR P x) (hf : ∀ a, FR P (f a)) : FR P (x >>= f) := fun v w h b v' hr => by
  rw [Sem.run_bind] at hr
  cases hxr : x.run P v with
  | halt k u => rw [hxr] at hr; cases hr
  | ok a u =>
    rw [hxr] at hr
    simp only [Result.andThen_ok] at hr
    obtain ⟨w1, h1, h2, h3⟩ := hx v w h a u hxr
    obtain ⟨w2, k1, k2, k3⟩ := hf a u w1 h2.view b v' hr
    refine ⟨w2, by rw [Sem.run_bind, h1]; exact k1, h2.trans k2, fun es e he => ?_⟩
    rw [Sem.events_bind, h1, Result.evThen_ok] at he
    rcases k3 _ e he with he | he
    · rcases h3 _ e he with he | he
      · exact .inl he
      · exact .inr (he.mono k2.grow)
    · exact .inr (he.back h2)
theorem FR.map {x : Sem α} {f : α → β} (hx : FR P x) : FR P (f <$> x) := by
  have := FR.bind hx fun a => FR.pure (f a)
  exact this
theorem FR.ite {c : Prop} [Decidable c] {x y : Sem α} (hx : FR P x) (hy : FR P y) : FR P (if c then x else y) := by split <;> assumption
theorem FR.list {f : α → β → Sem (ForInStep β)} (hf : ∀ a b, FR P (f a b)) : ∀ (l : List α) (b : β), FR P (forIn l b f)
  | [], b => by simp only [List.forIn_nil]; exact FR.pure _
  | a :: l, b => by
    rw [List.forIn_cons]
    refine FR.bind (hf a b) fun s => ?_
    cases s with
    | done b => exact FR.pure _
    | yield b => exact FR.list hf l b
theorem FR.array {f : α → β → Sem (ForInStep β)} (hf : ∀ a b, FR P (f a b)) (l : Array α) (b : β) : FR P (forIn l b f) := by
  rw [← Array.forIn_toList]; exact FR.list hf _ _
theorem FR.listM {f : β → α → Sem β} (hf : ∀ b a, FR P (f b a)) : ∀ (l : List α) (b : β), FR P (l.foldlM f b)
  | [], b => FR.pure _
  | a :: l, b => by rw [List.foldlM_cons]; exact FR.bind (hf b a) fun c => FR.listM hf l c
theorem FR.range {f : Nat → β → Sem (ForInStep β)} (hf : ∀ a b, FR P (f a b)) (r : Std.Legacy.Range) (b : β) : FR P (forIn r b f) := by
  rw [Std.Legacy.Range.forIn_eq_forIn_range']; exact FR.list hf _ _
theorem FR.listMapM {f : α → Sem β} (hf : ∀ a, FR P (f a)) : ∀ l : List α, FR P (l.mapM f)
  | [] => FR.pure _
  | a :: l => by rw [List.mapM_cons]; exact FR.bind (hf a) fun _ => FR.bind (FR.listMapM hf l) fun _ => FR.pure _
theorem FR.arrayMapM {f : α → Sem β} (hf : ∀ a, FR P (f a)) (l : Array α) : FR P (l.mapM f) := by
  rw [Array.mapM_eq_mapM_toList]; exact FR.map (FR.listMapM hf _)
/-- It never comes to a value. -/
theorem FR.never {x : Sem α} (h : ∀ v a v', x.run P v ≠ .ok a v') : FR P x := fun v _ _ a v' hr => absurd hr (h v a v')
theorem never_bind {x : Sem α} {f : α → Sem β} (h : ∀ a v b v', (f a).run P v ≠ .ok b v') : ∀ v b v', (x >>= f).run P v ≠ .ok b v' := fun v b v' hr => by
  rw [Sem.run_bind] at hr
  cases hxr : x.run P v with
  | halt k u => rw [hxr] at hr; cases hr
  | ok a u => rw [hxr] at hr; exact h a u b v' hr
end
section
variable {P : Program} {v w : World}
theorem View.cell (h : View v w) {a : Addr} {x : Value} (hx : v.cell? a = some x) : w.cell? a = some x ∧ Rdb v a.block ∧ a.block < v.heap.size := by
  have hb := h.blk a.block
  unfold World.cell? at hx ⊢
  cases hv : v.heap[a.block]? with
  | none => rw [hv] at hx; cases hx
  | some o =>
    have hlt : a.block < v.heap.size := (Array.getElem?_eq_some_iff.1 hv).1
    rw [hv] at hx hb
    cases o <;> try cases hx
    rename_i c ty z
    simp only at hx
    split at hx
    · cases hx
    · rename_i hs
      have hc : c ≠ #[] := by rintro rfl; simp at hx
      refine ⟨?_, ⟨c, ty, z, hv, hc⟩, hlt⟩
      generalize w.heap[a.block]? = y at hb
      cases hb with
      | same _ => simp [hs, hx]
      | dead => simp at hx
      | fro => simp [hs, hx]
theorem seen_self {b : Nat} {at_ : Addr} {u : TypeId} (hb : v.heap[b]? = some (.view at_ u)) (u' : TypeId) (k : Addr) (atomic : Bool) : ∃ s, v.seen P ⟨b, 0, none⟩ u' k atomic = .error s := by
  unfold World.seen
  simp only [bind, Except.bind, hb]
  repeat (first | exact ⟨_, rfl⟩ | split)
theorem viewLoad_self {b : Nat} {at_ : Addr} {u : TypeId} (hb : v.heap[b]? = some (.view at_ u)) (u' : TypeId) (k : Addr) (atomic : Bool) : ∃ s, v.viewLoad P ⟨b, 0, none⟩ u' k atomic = .error s := by
  obtain ⟨s, hs⟩ := seen_self (P := P) hb u' k atomic
  unfold World.viewLoad
  rw [hs]
  exact ⟨_, rfl⟩
theorem viewStore_self {b : Nat} {at_ : Addr} {u : TypeId} (hb : v.heap[b]? = some (.view at_ u)) (u' : TypeId) (k : Addr) (x : Value) (atomic : Bool) : ∃ s, v.viewStore P ⟨b, 0, none⟩ u' k x atomic = .error s := by
  obtain ⟨s, hs⟩ := seen_self (P := P) hb u' k atomic
  unfold World.viewStore
  rw [hs]
  simp only [bind, Except.bind]
  repeat (first | exact ⟨_, rfl⟩ | split)
theorem View.far (h : View v w) (a : Addr) (b : Bool) : ∃ e, v.farLoad P a b = .error e := by
  unfold World.farLoad
  have hb := h.blk a.block
  split
  · rename_i at_ u hv
    rw [hv] at hb
    generalize w.heap[a.block]? = y at hb
    cases hb with
    | same hn => exact absurd rfl (hn _ _)
    | view =>
      obtain ⟨s, hs⟩ := viewLoad_self (P := P) hv 0 a b
      rw [hs]; exact ⟨_, rfl⟩
  · exact ⟨_, rfl⟩
theorem View.farS (h : View v w) (a : Addr) (x : Value) (b : Bool) : ∃ e, v.farStore P a x b = .error e := by
  unfold World.farStore
  have hb := h.blk a.block
  split
  · rename_i at_ u hv
    rw [hv] at hb
    generalize w.heap[a.block]? = y at hb
    cases hb with
    | same hn => exact absurd rfl (hn _ _)
    | view =>
      obtain ⟨s, hs⟩ := viewStore_self (P := P) hv 0 a x b
      rw [hs]; exact ⟨_, rfl⟩
  · exact ⟨_, rfl⟩
theorem fr_load (a : Addr) (m : Mode) : FR P (load a m) := fun v w h x v' hr => by
  unfold load at hr ⊢
  simp only [Sem.run] at hr ⊢
  cases hc : v.cell? a with
  | none =>
    rw [hc] at hr
    obtain ⟨e, he⟩ := h.far (P := P) a (m == .atomic)
    simp only [he] at hr
    cases hr
  | some y =>
    rw [hc] at hr
    simp only [Result.ok.injEq] at hr
    obtain ⟨rfl, rfl⟩ := hr
    obtain ⟨h1, h2, h3⟩ := h.cell hc
    refine ⟨w, by rw [h1], .refl h, fun es e he => ?_⟩
    simp only [Sem.events, Sem.runT, h1] at he
    rcases Array.mem_push.1 he with he | rfl
    · exact .inl he
    · exact .inr ⟨h3, .inr (by simpa using h2)⟩
theorem fr_newObj (o : Obj) (ho : ∀ a t, o ≠ .view a t) : FR P (newObj o) := fun v w h x v' hr => by
  unfold newObj at hr ⊢
  simp only [Sem.run, Result.ok.injEq] at hr ⊢
  obtain ⟨rfl, rfl⟩ := hr
  refine ⟨_, ⟨h.size.symm, rfl⟩, ⟨⟨by rw [h.rest], by simp [h.size], fun b => ?_⟩, by simp, fun b hb => ?_, fun b hb _ => ?_, fun b hb => ?_, rfl, rfl, rfl, fun b c ty z hb => ?_, fun b hb => ?_⟩, fun es e he => .inl he⟩
  · simp only [Array.getElem?_push, h.size]
    split
    · exact .same fun a t => by simpa using ho a t
    · exact h.blk b
  · simp only [Array.getElem?_push, h.size]
    split
    · rfl
    · exact hb
  · simp only [Array.getElem?_push, ← h.size]
    rw [if_neg (by omega)]
    exact ⟨rfl, by rw [if_neg (by omega)]⟩
  · simp only [Odd, Array.getElem?_push]
    rw [if_neg (by omega)]
  · have := (Array.getElem?_eq_some_iff.1 hb).1
    exact ⟨c, z, by rw [Array.getElem?_push, if_neg (by omega)]; exact hb⟩
  · obtain ⟨c, ty, z, h1, h2, h3⟩ := hb
    have := (Array.getElem?_eq_some_iff.1 h1).1
    exact ⟨c, ty, z, by rw [Array.getElem?_push, if_neg (by omega)]; exact h1, h2, h3⟩
theorem fr_choose (q : Question) : FR P (choose q) := fun v w h x v' hr => by
  unfold choose at hr ⊢
  simp only [Sem.run] at hr ⊢
  have e1 : w.tape = v.tape := by rw [h.rest]
  have e2 : w.drawn = v.drawn := by rw [h.rest]
  split at hr
  · rename_i hf
    simp only [Result.ok.injEq] at hr
    obtain ⟨rfl, rfl⟩ := hr
    exact ⟨w, by rw [if_pos hf], .refl h, fun es e he => .inl (by simpa [Sem.events, Sem.runT, hf] using he)⟩
  · rename_i hf
    simp only [Result.ok.injEq] at hr
    obtain ⟨rfl, rfl⟩ := hr
    refine ⟨{ w with drawn := w.drawn + 1 }, by rw [if_neg hf, e1, e2], ⟨⟨by rw [h.rest], h.size, h.blk⟩, Nat.le_refl _, fun _ h => h, fun _ _ _ => ⟨rfl, rfl⟩, fun _ _ => Iff.rfl, rfl, rfl, rfl, fun _ c _ z h => ⟨c, z, h⟩, fun _ h => h⟩, fun es e he => .inl (by simpa [Sem.events, Sem.runT, hf] using he)⟩
theorem fr_program : FR P program := fun v w h x v' hr => by
  unfold program at hr ⊢
  simp only [Sem.run, Result.ok.injEq] at hr ⊢
  obtain ⟨rfl, rfl⟩ := hr
  exact ⟨w, ⟨rfl, rfl⟩, .refl h, fun es e he => .inl he⟩
theorem fr_noRoom : FR P (mark .noRoom) := fun v w h x v' hr => by
  unfold mark at hr ⊢
  simp only [Sem.run, Result.ok.injEq] at hr ⊢
  obtain ⟨_, rfl⟩ := hr
  refine ⟨w, ⟨trivial, rfl⟩, .refl h, fun es e he => ?_⟩
  simp only [Sem.events, Sem.runT] at he
  rcases Array.mem_push.1 he with he | rfl
  · exact .inl he
  · exact .inr (.inl rfl)
theorem fr_stuck {α : Type} (s : String) : FR P (stuck s : Sem α) := FR.halt _
theorem fr_unsupported {α : Type} (s : Unsupported) : FR P (unsupported s : Sem α) := FR.halt _
theorem fr_goPanic {α : Type} (s : Value) : FR P (goPanic s : Sem α) := FR.halt _
theorem setCell_heap (w : World) (a : Addr) (x : Value) (b : Nat) : (w.setCell a x).heap[b]? = if a.block = b then (w.heap[b]?).map (fun o => match o with | .cells c t z => .cells (if a.spot.isSome = true then c else c.setIfInBounds a.off x) t z | o => o) else w.heap[b]? := by
  simp only [World.setCell, Array.getElem?_modify]
  rfl
theorem fr_store (a : Addr) (x : Value) (m : Mode) : FR P (store a x m) := fun v w h u v' hr => by
  unfold store at hr ⊢
  have key : ∀ y, (Sem.store m a y (.pure ())).run P v = .ok u v' → (∀ cs, y ≠ .agg cs) → (∀ cs, y ≠ .tuple cs) → ∃ w', (Sem.store m a y (.pure ())).run P w = .ok u w' ∧ Chg v v' w w' ∧ ∀ es, ∀ e ∈ (Sem.store m a y (.pure ()) : Sem Unit).events P w es, e ∈ es ∨ EvOk v v'.heap.size e := by
    intro y hr hy1 hy2
    have run : ∀ u : World, (Sem.store m a y (.pure ()) : Sem Unit).run P u = match u.cell? a with
        | some _ => if u.frozen? a then .halt (.unsupported (.unsafePointer "a write to bytes that a string shares")) u else .ok () (u.setCell a y)
        | none => match u.farStore P a y (m == .atomic) with
          | .ok (u, _) => .ok () u
          | .error h => .halt h u := by
      intro u
      cases y <;> first | exact absurd rfl (hy1 _) | exact absurd rfl (hy2 _) | (simp only [Sem.run]; rfl)
    rw [run] at hr
    cases hc : v.cell? a with
    | none =>
      rw [hc] at hr
      obtain ⟨e, he⟩ := h.farS (P := P) a y (m == .atomic)
      simp only [he] at hr
      cases hr
    | some y0 =>
      rw [hc] at hr
      simp only at hr
      split at hr
      · cases hr
      rename_i hfr
      simp only [Result.ok.injEq] at hr
      obtain ⟨_, rfl⟩ := hr
      obtain ⟨h1, ⟨c, ty, z, hv, hne⟩, h3⟩ := h.cell hc
      have hoff : a.off < c.size := by
        unfold World.cell? at hc
        rw [hv] at hc
        simp only at hc
        split at hc
        · cases hc
        · exact (Array.getElem?_eq_some_iff.1 hc).1
      have hz : z ≠ (0, c.size) := by
        rintro rfl
        apply hfr
        simp [World.frozen?, hv, hoff]
      have hl : Liv v a.block := ⟨c, ty, z, hv, hne, hz⟩
      have hw : w.heap[a.block]? = some (.cells c ty z) := by
        have hb := h.blk a.block
        rw [hv] at hb
        generalize w.heap[a.block]? = y at hb
        cases hb with
        | same _ => rfl
        | dead => exact absurd rfl hne
        | fro => exact absurd rfl hz
      have hfw : w.frozen? a = false := by
        have : w.frozen? a = v.frozen? a := by simp [World.frozen?, hv, hw]
        rw [this]; simpa using hfr
      refine ⟨w.setCell a y, by rw [run, h1]; simp [hfw], ⟨⟨by rw [h.rest]; rfl, by simp [World.setCell, h.size], fun b => ?_⟩, by simp [World.setCell], fun b hb => ?_, fun b hb hn => ?_, fun b hb => ?_, rfl, rfl, rfl, fun b c ty z hb => ?_, fun b hb => ?_⟩, fun es e he => ?_⟩
      · rw [setCell_heap, setCell_heap]
        split
        · rename_i hab
          subst hab
          rw [hv, hw]
          exact .same fun a t => by simp
        · exact h.blk b
      · rw [setCell_heap, setCell_heap, hb]
      · rw [setCell_heap, setCell_heap]
        have : a.block ≠ b := by rintro rfl; exact hn hl
        simp [this]
      · simp only [Odd, setCell_heap]
        split
        · rename_i hab
          subst hab
          rw [hv]
          constructor <;> (rintro ⟨o, ho, hn⟩; simp at ho; subst ho; exact absurd rfl (hn _ _ _))
        · rfl
      · rw [setCell_heap, hb]
        split
        · exact ⟨_, _, rfl⟩
        · exact ⟨_, _, rfl⟩
      · obtain ⟨c, ty, z, h1, h2, h3⟩ := hb
        unfold Liv
        rw [setCell_heap, h1]
        split
        · refine ⟨_, _, _, rfl, ?_, ?_⟩
          · split
            · exact h2
            · intro e; apply h2
              have := congrArg Array.size e
              simp at this
              exact this
          · split
            · exact h3
            · simpa using h3
        · exact ⟨_, _, _, rfl, h2, h3⟩
      · have ev : (Sem.store m a y (.pure ()) : Sem Unit).events P w es = es.push ⟨.cell a, true, m == .atomic⟩ := by
          cases y <;> first | exact absurd rfl (hy1 _) | exact absurd rfl (hy2 _) | (simp only [Sem.events, Sem.runT, h1, hfw]; rfl)
        rw [ev] at he
        rcases Array.mem_push.1 he with he | rfl
        · exact .inl he
        · exact .inr ⟨by simpa [World.setCell] using h3, .inr (by simpa using hl)⟩
  by_cases h1 : ∃ cs, x = .agg cs
  · obtain ⟨cs, rfl⟩ := h1
    simp [Sem.run] at hr
  by_cases h2 : ∃ cs, x = .tuple cs
  · obtain ⟨cs, rfl⟩ := h2
    simp [Sem.run] at hr
  exact key _ hr (fun cs h => h1 ⟨cs, h⟩) (fun cs h => h2 ⟨cs, h⟩)
/-- The shape of a block, where its length is not looked at. -/
theorem fr_shapeE {α : Type} {r : Nat} {k : Option (TypeId × Nat) → Sem α} (he : ∀ e n n', k (some (e, n)) = k (some (e, n'))) (hk : ∀ s, FR P (k s)) : FR P (shape r >>= k) := fun v w h a v' hr => by
  have run : ∀ u : World, (shape r >>= k).run P u = (k (u.shape? r)).run P u := fun _ => rfl
  have ev : ∀ (u : World) es, (shape r >>= k).events P u es = (k (u.shape? r)).events P u es := fun _ _ => rfl
  have heq : k (v.shape? r) = k (w.shape? r) := by
    have hb := h.blk r
    unfold World.shape?
    generalize v.heap[r]? = x at hb
    generalize w.heap[r]? = y at hb
    cases hb with
    | same _ => rfl
    | view => rfl
    | dead => exact he _ _ _
    | fro => rfl
  rw [run] at hr
  obtain ⟨w', h1, h2, h3⟩ := hk _ v w h a v' hr
  refine ⟨w', by rw [run, ← heq]; exact h1, h2, fun es e he => ?_⟩
  rw [ev, ← heq] at he
  exact h3 es e he
end
end Go.Proofs.Ytgeflnjjppgooaa

namespace Go.Proofs.Ytgeflnjjppgooaa
open Go
section
variable {P : Program}
theorem fr_getObj_bind {α : Type} {r : Nat} {k : Obj → Sem α} (hv : ∀ a t u b v', (k (.view a t)).run P u ≠ .ok b v') (hk : ∀ o, FR P (k o)) : FR P (getObj r >>= k) := fun v w h a v' hr => by
  have hb := h.blk r
  have run : ∀ u : World, (getObj r >>= k).run P u = match u.heap[r]? with
      | some (.cells ..) => .halt (.stuck "getObj: a row of cells") u
      | some o => (k o).run P u
      | none => .halt (.stuck "getObj: no such block") u := fun u => by
    show Sem.run P (Sem.getObj r fun o => k o) u = _
    simp only [Sem.run]
    cases u.heap[r]? with
    | none => rfl
    | some o => cases o <;> rfl
  rw [run] at hr
  cases hx : v.heap[r]? with
  | none => rw [hx] at hr; cases hr
  | some o =>
    rw [hx] at hr hb
    have hlt : r < v.heap.size := (Array.getElem?_eq_some_iff.1 hx).1
    by_cases hc : ∃ c ty z, o = .cells c ty z
    · obtain ⟨c, ty, z, rfl⟩ := hc; cases hr
    by_cases hvw : ∃ a t, o = .view a t
    · obtain ⟨a', t, rfl⟩ := hvw
      exact absurd hr (hv _ _ _ _ _)
    have hw : w.heap[r]? = some o := by
      generalize w.heap[r]? = y at hb
      cases hb with
      | same _ => rfl
      | view => exact absurd ⟨_, _, rfl⟩ hvw
      | dead => exact absurd ⟨_, _, _, rfl⟩ hc
      | fro => exact absurd ⟨_, _, _, rfl⟩ hc
    have hr' : (k o).run P v = .ok a v' := by cases o <;> first | exact absurd ⟨_, _, _, rfl⟩ hc | exact hr
    obtain ⟨w', h1, h2, h3⟩ := hk o v w h a v' hr'
    have hodd : Odd v r := ⟨o, hx, fun c ty z e => hc ⟨c, ty, z, e⟩⟩
    refine ⟨w', by rw [run, hw]; cases o <;> first | exact absurd ⟨_, _, _, rfl⟩ hc | exact h1, h2, fun es e he => ?_⟩
    have ev : (getObj r >>= k).events P w es = (k o).events P w (es.push ⟨.obj r, false, o.isChan⟩) := by
      rw [Sem.events_bind]
      cases o <;> first | exact absurd ⟨_, _, _, rfl⟩ hc | (simp only [getObj, Sem.run, hw, Result.evThen_ok]; simp only [Sem.events, Sem.runT, hw])
    rw [ev] at he
    rcases h3 _ e he with he | he
    · rcases Array.mem_push.1 he with he | rfl
      · exact .inl he
      · exact .inr ⟨rfl, Nat.lt_of_lt_of_le hlt h2.grow, .inr hodd⟩
    · exact .inr he
theorem fr_askRoom (n : Nat) : FR P (askRoom n) := by
  unfold askRoom
  split
  · exact fr_noRoom
  · exact FR.pure _
/-- .. where a view comes to nothing. -/
theorem fr_viewAt_bind {α : Type} {r : Nat} {k : Option (Addr × TypeId) → Sem α} (hv : ∀ x u b v', (k (some x)).run P u ≠ .ok b v') (hk : FR P (k none)) : FR P (viewAt r >>= k) := by
  have e : viewAt r >>= k = shape r >>= fun s => if s.isSome = true then k none else getObj r >>= fun o => match o with | .view a t => k (some (a, t)) | _ => k none := by
    show Sem.bind (viewAt r) k = Sem.bind (shape r) _
    unfold viewAt
    simp only [shape, Sem.bind, bind, Pure.pure, getObj]
    congr 1
    funext s
    split
    · rfl
    · simp only [Sem.bind]
      congr 1
      funext o
      cases o <;> rfl
  rw [e]
  refine fr_shapeE (fun _ _ _ => rfl) fun s => ?_
  split
  · exact hk
  · refine fr_getObj_bind (fun a t u b v' => hv _ _ _ _) fun o => ?_
    split
    · exact FR.never fun v a v' => hv _ _ _ _
    · exact hk
theorem fr_noView (a : Addr) : FR P (noView a) := by
  unfold noView
  refine fr_viewAt_bind (fun x u b v' h => ?_) (FR.pure _)
  simp [unsupported] at h
theorem fr_numberAt (r : Nat) : FR P (numberAt r) := by
  unfold numberAt
  refine fr_shapeE (fun _ _ _ => rfl) fun s => ?_
  split
  · exact FR.pure _
  · have key : ∀ f : Obj → Option (Addr × Bool), (∀ a t, f (.view a t) = none) → FR P (getObj r >>= fun o => (Pure.pure (f o) : Sem _)) := by
      intro f hf v w h a v' hr
      have run : ∀ u : World, (getObj r >>= fun o => (Pure.pure (f o) : Sem _)).run P u = match u.heap[r]? with
          | some (.cells ..) => .halt (.stuck "getObj: a row of cells") u
          | some o => .ok (f o) u
          | none => .halt (.stuck "getObj: no such block") u := fun u => by
        show Sem.run P (Sem.getObj r fun o => Sem.pure (f o)) u = _
        simp only [Sem.run]
        cases u.heap[r]? with
        | none => rfl
        | some o => cases o <;> rfl
      have hb := h.blk r
      rw [run] at hr
      cases hx : v.heap[r]? with
      | none => rw [hx] at hr; cases hr
      | some o =>
        rw [hx] at hr hb
        have hlt : r < v.heap.size := (Array.getElem?_eq_some_iff.1 hx).1
        by_cases hc : ∃ c ty z, o = .cells c ty z
        · obtain ⟨c, ty, z, rfl⟩ := hc; cases hr
        have hr' : Result.ok (f o) v = Result.ok a v' := by cases o <;> first | exact absurd ⟨_, _, _, rfl⟩ hc | exact hr
        simp only [Result.ok.injEq] at hr'
        obtain ⟨rfl, rfl⟩ := hr'
        have hodd : Odd v r := ⟨o, hx, fun c ty z e => hc ⟨c, ty, z, e⟩⟩
        obtain ⟨o', hw, hne, hf'⟩ : ∃ o', w.heap[r]? = some o' ∧ (∀ c ty z, o' ≠ .cells c ty z) ∧ f o' = f o := by
          generalize w.heap[r]? = y at hb
          cases hb with
          | same _ => exact ⟨o, rfl, fun c ty z e => hc ⟨c, ty, z, e⟩, rfl⟩
          | view => exact ⟨_, rfl, by simp, by rw [hf, hf]⟩
          | dead => exact absurd ⟨_, _, _, rfl⟩ hc
          | fro => exact absurd ⟨_, _, _, rfl⟩ hc
        refine ⟨w, by rw [run, hw]; cases o' <;> first | exact absurd rfl (hne _ _ _) | simp [hf'], .refl h, fun es e he => ?_⟩
        have ev : (getObj r >>= fun o => (Pure.pure (f o) : Sem _)).events P w es = es.push ⟨.obj r, false, o'.isChan⟩ := by
          rw [Sem.events_bind]
          cases o' <;> first | exact absurd rfl (hne _ _ _) | (simp only [getObj, Sem.run, hw, Result.evThen_ok, Sem.events_pure]; simp only [Sem.events, Sem.runT, hw])
        rw [ev] at he
        rcases Array.mem_push.1 he with he | rfl
        · exact .inl he
        · exact .inr ⟨rfl, hlt, .inr hodd⟩
    have := key (fun o => match o with | .number a lost => some (a, lost) | _ => none) (fun _ _ => rfl)
    refine Eq.mp (congrArg (FR P) ?_) this
    congr 1
    funext o
    cases o <;> rfl
theorem fr_newCells (c : Array Value) (t : TypeId) (z : Nat × Nat) : FR P (newObj (.cells c t z)) := fr_newObj _ (by simp)
theorem fr_newNumber (a : Addr) (l : Bool) : FR P (newObj (.number a l)) := fr_newObj _ (by simp)
theorem fr_asNumber (a : Addr) (l : Bool) : FR P (asNumber a l) := by
  unfold asNumber
  repeat first | with_reducible exact fr_newNumber .. | with_reducible exact FR.pure _ | with_reducible exact FR.halt _ | with_reducible assumption | with_reducible refine fr_shapeE (fun _ _ _ => rfl) (fun _ => ?_) | with_reducible apply FR.map | with_reducible apply FR.bind | with_reducible apply FR.array | with_reducible apply FR.range | with_reducible apply FR.arrayMapM | with_reducible apply FR.list | with_reducible apply FR.listM | with_reducible refine FR.ite ?_ ?_ | split | with_reducible intro _ | (dsimp only)
theorem fr_behindNumber (a : Addr) : FR P (behindNumber a) := by
  unfold behindNumber
  repeat first | with_reducible exact fr_numberAt .. | with_reducible exact FR.pure _ | with_reducible exact FR.halt _ | with_reducible assumption | with_reducible refine fr_shapeE (fun _ _ _ => rfl) (fun _ => ?_) | with_reducible apply FR.map | with_reducible apply FR.bind | with_reducible apply FR.array | with_reducible apply FR.range | with_reducible apply FR.arrayMapM | with_reducible apply FR.list | with_reducible apply FR.listM | with_reducible refine FR.ite ?_ ?_ | split | with_reducible intro _ | (dsimp only)
theorem fr_typeInfo (t : TypeId) : FR P (typeInfo t) := by
  unfold typeInfo
  repeat first | with_reducible exact fr_stuck .. | with_reducible exact fr_program .. | with_reducible exact FR.pure _ | with_reducible exact FR.halt _ | with_reducible assumption | with_reducible refine fr_shapeE (fun _ _ _ => rfl) (fun _ => ?_) | with_reducible apply FR.map | with_reducible apply FR.bind | with_reducible apply FR.array | with_reducible apply FR.range | with_reducible apply FR.arrayMapM | with_reducible apply FR.list | with_reducible apply FR.listM | with_reducible refine FR.ite ?_ ?_ | split | with_reducible intro _ | (dsimp only)
theorem fr_underlying (t : TypeId) : FR P (underlying t) := by
  unfold underlying
  repeat first | with_reducible exact fr_stuck .. | with_reducible exact fr_program .. | with_reducible exact FR.pure _ | with_reducible exact FR.halt _ | with_reducible assumption | with_reducible refine fr_shapeE (fun _ _ _ => rfl) (fun _ => ?_) | with_reducible apply FR.map | with_reducible apply FR.bind | with_reducible apply FR.array | with_reducible apply FR.range | with_reducible apply FR.arrayMapM | with_reducible apply FR.list | with_reducible apply FR.listM | with_reducible refine FR.ite ?_ ?_ | split | with_reducible intro _ | (dsimp only)
theorem fr_zeroValue (t : TypeId) : FR P (zeroValue t) := by
  unfold zeroValue
  repeat first | with_reducible exact fr_typeInfo .. | with_reducible exact fr_unsupported .. | with_reducible exact FR.pure _ | with_reducible exact FR.halt _ | with_reducible assumption | with_reducible refine fr_shapeE (fun _ _ _ => rfl) (fun _ => ?_) | with_reducible apply FR.map | with_reducible apply FR.bind | with_reducible apply FR.array | with_reducible apply FR.range | with_reducible apply FR.arrayMapM | with_reducible apply FR.list | with_reducible apply FR.listM | with_reducible refine FR.ite ?_ ?_ | split | with_reducible intro _ | (dsimp only)
theorem fr_sizeOf (t : TypeId) : FR P (sizeOf t) := by
  unfold sizeOf
  repeat first | with_reducible exact fr_typeInfo .. | with_reducible exact FR.pure _ | with_reducible exact FR.halt _ | with_reducible assumption | with_reducible refine fr_shapeE (fun _ _ _ => rfl) (fun _ => ?_) | with_reducible apply FR.map | with_reducible apply FR.bind | with_reducible apply FR.array | with_reducible apply FR.range | with_reducible apply FR.arrayMapM | with_reducible apply FR.list | with_reducible apply FR.listM | with_reducible refine FR.ite ?_ ?_ | split | with_reducible intro _ | (dsimp only)
theorem fr_isAgg (t : TypeId) : FR P (isAgg t) := by
  unfold isAgg
  repeat first | with_reducible exact fr_underlying .. | with_reducible exact FR.pure _ | with_reducible exact FR.halt _ | with_reducible assumption | with_reducible refine fr_shapeE (fun _ _ _ => rfl) (fun _ => ?_) | with_reducible apply FR.map | with_reducible apply FR.bind | with_reducible apply FR.array | with_reducible apply FR.range | with_reducible apply FR.arrayMapM | with_reducible apply FR.list | with_reducible apply FR.listM | with_reducible refine FR.ite ?_ ?_ | split | with_reducible intro _ | (dsimp only)
theorem fr_loadCellsFrom (a : Addr) : ∀ (n i : Nat) (acc : Array Value), FR P (loadCellsFrom a i n acc)
  | 0, _, _ => FR.pure _
  | n + 1, i, _ => FR.bind (fr_load _ _) fun _ => fr_loadCellsFrom a n (i + 1) _
theorem fr_storeCells (a : Addr) : ∀ (vs : List Value) (i : Nat), FR P (storeCells a vs i)
  | [], _ => FR.pure _
  | _ :: vs, i => FR.bind (fr_store _ _ _) fun _ => fr_storeCells a vs (i + 1)
theorem fr_loadCells (a : Addr) (n : Nat) : FR P (loadCells a n) := by
  unfold loadCells
  repeat first | with_reducible exact fr_loadCellsFrom .. | with_reducible exact FR.pure _ | with_reducible exact FR.halt _ | with_reducible assumption | with_reducible refine fr_shapeE (fun _ _ _ => rfl) (fun _ => ?_) | with_reducible apply FR.map | with_reducible apply FR.bind | with_reducible apply FR.array | with_reducible apply FR.range | with_reducible apply FR.arrayMapM | with_reducible apply FR.list | with_reducible apply FR.listM | with_reducible refine FR.ite ?_ ?_ | split | with_reducible intro _ | (dsimp only)
theorem fr_loadVar (t : TypeId) (a : Addr) : FR P (loadVar t a) := by
  unfold loadVar
  repeat first | with_reducible exact fr_loadCells .. | with_reducible exact fr_isAgg .. | with_reducible exact fr_sizeOf .. | with_reducible exact fr_load .. | with_reducible exact FR.pure _ | with_reducible exact FR.halt _ | with_reducible assumption | with_reducible refine fr_shapeE (fun _ _ _ => rfl) (fun _ => ?_) | with_reducible apply FR.map | with_reducible apply FR.bind | with_reducible apply FR.array | with_reducible apply FR.range | with_reducible apply FR.arrayMapM | with_reducible apply FR.list | with_reducible apply FR.listM | with_reducible refine FR.ite ?_ ?_ | split | with_reducible intro _ | (dsimp only)
theorem fr_storeVar (t : TypeId) (a : Addr) (v : Value) : FR P (storeVar t a v) := by
  unfold storeVar
  repeat first | with_reducible exact fr_storeCells .. | with_reducible exact fr_sizeOf .. | with_reducible exact fr_stuck .. | with_reducible exact FR.pure _ | with_reducible exact FR.halt _ | with_reducible assumption | with_reducible refine fr_shapeE (fun _ _ _ => rfl) (fun _ => ?_) | with_reducible apply FR.map | with_reducible apply FR.bind | with_reducible apply FR.array | with_reducible apply FR.range | with_reducible apply FR.arrayMapM | with_reducible apply FR.list | with_reducible apply FR.listM | with_reducible refine FR.ite ?_ ?_ | split | with_reducible intro _ | (dsimp only)
theorem fr_newRow (t : TypeId) (c : Array Value) : FR P (newRow t c) := by
  unfold newRow
  repeat first | with_reducible exact fr_newCells .. | with_reducible exact FR.pure _ | with_reducible exact FR.halt _ | with_reducible assumption | with_reducible refine fr_shapeE (fun _ _ _ => rfl) (fun _ => ?_) | with_reducible apply FR.map | with_reducible apply FR.bind | with_reducible apply FR.array | with_reducible apply FR.range | with_reducible apply FR.arrayMapM | with_reducible apply FR.list | with_reducible apply FR.listM | with_reducible refine FR.ite ?_ ?_ | split | with_reducible intro _ | (dsimp only)
theorem fr_newVar (t : TypeId) (v : Value) : FR P (newVar t v) := by
  unfold newVar
  repeat first | with_reducible exact fr_newRow .. | with_reducible exact FR.pure _ | with_reducible exact FR.halt _ | with_reducible assumption | with_reducible refine fr_shapeE (fun _ _ _ => rfl) (fun _ => ?_) | with_reducible apply FR.map | with_reducible apply FR.bind | with_reducible apply FR.array | with_reducible apply FR.range | with_reducible apply FR.arrayMapM | with_reducible apply FR.list | with_reducible apply FR.listM | with_reducible refine FR.ite ?_ ?_ | split | with_reducible intro _ | (dsimp only)
theorem fr_elemOf (t : TypeId) : FR P (elemOf t) := by
  unfold elemOf
  repeat first | with_reducible exact fr_underlying .. | with_reducible exact fr_stuck .. | with_reducible exact FR.pure _ | with_reducible exact FR.halt _ | with_reducible assumption | with_reducible refine fr_shapeE (fun _ _ _ => rfl) (fun _ => ?_) | with_reducible apply FR.map | with_reducible apply FR.bind | with_reducible apply FR.array | with_reducible apply FR.range | with_reducible apply FR.arrayMapM | with_reducible apply FR.list | with_reducible apply FR.listM | with_reducible refine FR.ite ?_ ?_ | split | with_reducible intro _ | (dsimp only)
theorem fr_part (t : TypeId) (c : Array Value) (o : Nat) : FR P (part t c o) := by
  unfold part
  repeat first | with_reducible exact fr_isAgg .. | with_reducible exact fr_sizeOf .. | with_reducible exact fr_stuck .. | with_reducible exact FR.pure _ | with_reducible exact FR.halt _ | with_reducible assumption | with_reducible refine fr_shapeE (fun _ _ _ => rfl) (fun _ => ?_) | with_reducible apply FR.map | with_reducible apply FR.bind | with_reducible apply FR.array | with_reducible apply FR.range | with_reducible apply FR.arrayMapM | with_reducible apply FR.list | with_reducible apply FR.listM | with_reducible refine FR.ite ?_ ?_ | split | with_reducible intro _ | (dsimp only)
theorem fr_runtimePanic {α : Type} (e : RuntimeError) : FR P (runtimePanic e : Sem α) := by
  unfold runtimePanic
  repeat first | with_reducible exact fr_elemOf .. | with_reducible exact fr_newVar .. | with_reducible exact fr_goPanic .. | with_reducible exact fr_program .. | with_reducible exact FR.pure _ | with_reducible exact FR.halt _ | with_reducible assumption | with_reducible refine fr_shapeE (fun _ _ _ => rfl) (fun _ => ?_) | with_reducible apply FR.map | with_reducible apply FR.bind | with_reducible apply FR.array | with_reducible apply FR.range | with_reducible apply FR.arrayMapM | with_reducible apply FR.list | with_reducible apply FR.listM | with_reducible refine FR.ite ?_ ?_ | split | with_reducible intro _ | (dsimp only)
theorem fr_boundsPanic {α : Type} (k : IntKind) (x y : Int) (c : BoundsCode) : FR P (boundsPanic k x y c : Sem α) := by
  unfold boundsPanic
  repeat first | with_reducible exact fr_runtimePanic .. | with_reducible exact fr_choose .. | with_reducible exact FR.pure _ | with_reducible exact FR.halt _ | with_reducible assumption | with_reducible refine fr_shapeE (fun _ _ _ => rfl) (fun _ => ?_) | with_reducible apply FR.map | with_reducible apply FR.bind | with_reducible apply FR.array | with_reducible apply FR.range | with_reducible apply FR.arrayMapM | with_reducible apply FR.list | with_reducible apply FR.listM | with_reducible refine FR.ite ?_ ?_ | split | with_reducible intro _ | (dsimp only)
theorem fr_asIntOf (v : Value) : FR P (asIntOf v) := by
  unfold asIntOf
  repeat first | with_reducible exact fr_unsupported .. | with_reducible exact fr_stuck .. | with_reducible exact FR.pure _ | with_reducible exact FR.halt _ | with_reducible assumption | with_reducible refine fr_shapeE (fun _ _ _ => rfl) (fun _ => ?_) | with_reducible apply FR.map | with_reducible apply FR.bind | with_reducible apply FR.array | with_reducible apply FR.range | with_reducible apply FR.arrayMapM | with_reducible apply FR.list | with_reducible apply FR.listM | with_reducible refine FR.ite ?_ ?_ | split | with_reducible intro _ | (dsimp only)
theorem fr_asInt (v : Value) : FR P (asInt v) := by
  unfold asInt
  repeat first | with_reducible exact fr_asIntOf .. | with_reducible exact FR.pure _ | with_reducible exact FR.halt _ | with_reducible assumption | with_reducible refine fr_shapeE (fun _ _ _ => rfl) (fun _ => ?_) | with_reducible apply FR.map | with_reducible apply FR.bind | with_reducible apply FR.array | with_reducible apply FR.range | with_reducible apply FR.arrayMapM | with_reducible apply FR.list | with_reducible apply FR.listM | with_reducible refine FR.ite ?_ ?_ | split | with_reducible intro _ | (dsimp only)
theorem fr_asBool (v : Value) : FR P (asBool v) := by
  unfold asBool
  repeat first | with_reducible exact fr_stuck .. | with_reducible exact FR.pure _ | with_reducible exact FR.halt _ | with_reducible assumption | with_reducible refine fr_shapeE (fun _ _ _ => rfl) (fun _ => ?_) | with_reducible apply FR.map | with_reducible apply FR.bind | with_reducible apply FR.array | with_reducible apply FR.range | with_reducible apply FR.arrayMapM | with_reducible apply FR.list | with_reducible apply FR.listM | with_reducible refine FR.ite ?_ ?_ | split | with_reducible intro _ | (dsimp only)
theorem fr_asAddr (v : Value) : FR P (asAddr v) := by
  unfold asAddr
  repeat first | with_reducible exact fr_runtimePanic .. | with_reducible exact fr_stuck .. | with_reducible exact FR.pure _ | with_reducible exact FR.halt _ | with_reducible assumption | with_reducible refine fr_shapeE (fun _ _ _ => rfl) (fun _ => ?_) | with_reducible apply FR.map | with_reducible apply FR.bind | with_reducible apply FR.array | with_reducible apply FR.range | with_reducible apply FR.arrayMapM | with_reducible apply FR.list | with_reducible apply FR.listM | with_reducible refine FR.ite ?_ ?_ | split | with_reducible intro _ | (dsimp only)
theorem fr_sureAddr (v : Value) : FR P (Instr.sureAddr v) := by
  unfold Instr.sureAddr
  repeat first | with_reducible exact fr_stuck .. | with_reducible exact FR.pure _ | with_reducible exact FR.halt _ | with_reducible assumption | with_reducible refine fr_shapeE (fun _ _ _ => rfl) (fun _ => ?_) | with_reducible apply FR.map | with_reducible apply FR.bind | with_reducible apply FR.array | with_reducible apply FR.range | with_reducible apply FR.arrayMapM | with_reducible apply FR.list | with_reducible apply FR.listM | with_reducible refine FR.ite ?_ ?_ | split | with_reducible intro _ | (dsimp only)
theorem fr_loadAt (t : TypeId) (v : Value) : FR P (Instr.loadAt t v) := by
  unfold Instr.loadAt
  repeat first | with_reducible exact fr_sureAddr .. | with_reducible exact fr_loadVar .. | with_reducible exact FR.pure _ | with_reducible exact FR.halt _ | with_reducible assumption | with_reducible refine fr_shapeE (fun _ _ _ => rfl) (fun _ => ?_) | with_reducible apply FR.map | with_reducible apply FR.bind | with_reducible apply FR.array | with_reducible apply FR.range | with_reducible apply FR.arrayMapM | with_reducible apply FR.list | with_reducible apply FR.listM | with_reducible refine FR.ite ?_ ?_ | split | with_reducible intro _ | (dsimp only)
theorem fr_storeAt (t : TypeId) (v x : Value) : FR P (Instr.storeAt t v x) := by
  unfold Instr.storeAt
  repeat first | with_reducible exact fr_sureAddr .. | with_reducible exact fr_storeVar .. | with_reducible exact FR.pure _ | with_reducible exact FR.halt _ | with_reducible assumption | with_reducible refine fr_shapeE (fun _ _ _ => rfl) (fun _ => ?_) | with_reducible apply FR.map | with_reducible apply FR.bind | with_reducible apply FR.array | with_reducible apply FR.range | with_reducible apply FR.arrayMapM | with_reducible apply FR.list | with_reducible apply FR.listM | with_reducible refine FR.ite ?_ ?_ | split | with_reducible intro _ | (dsimp only)
theorem fr_alloc (t : TypeId) (h : Bool) (v : Value) : FR P (Instr.alloc t h v) := by
  unfold Instr.alloc
  repeat first | with_reducible exact fr_newVar .. | with_reducible exact fr_storeVar .. | with_reducible exact fr_zeroValue .. | with_reducible exact FR.pure _ | with_reducible exact FR.halt _ | with_reducible assumption | with_reducible refine fr_shapeE (fun _ _ _ => rfl) (fun _ => ?_) | with_reducible apply FR.map | with_reducible apply FR.bind | with_reducible apply FR.array | with_reducible apply FR.range | with_reducible apply FR.arrayMapM | with_reducible apply FR.list | with_reducible apply FR.listM | with_reducible refine FR.ite ?_ ?_ | split | with_reducible intro _ | (dsimp only)
theorem fr_box (t : TypeId) (v : Value) : FR P (Instr.box t v) := by
  unfold Instr.box
  repeat first | with_reducible exact fr_newVar .. | with_reducible exact FR.pure _ | with_reducible exact FR.halt _ | with_reducible assumption | with_reducible refine fr_shapeE (fun _ _ _ => rfl) (fun _ => ?_) | with_reducible apply FR.map | with_reducible apply FR.bind | with_reducible apply FR.array | with_reducible apply FR.range | with_reducible apply FR.arrayMapM | with_reducible apply FR.list | with_reducible apply FR.listM | with_reducible refine FR.ite ?_ ?_ | split | with_reducible intro _ | (dsimp only)
theorem fr_indexAt (t : TypeId) (v x : Value) : FR P (Instr.indexAt t v x) := by
  unfold Instr.indexAt
  repeat first | with_reducible exact fr_sureAddr .. | with_reducible exact fr_asIntOf .. | with_reducible exact fr_boundsPanic .. | with_reducible exact fr_sizeOf .. | with_reducible exact fr_underlying .. | with_reducible exact fr_unsupported .. | with_reducible exact fr_stuck .. | with_reducible exact FR.pure _ | with_reducible exact FR.halt _ | with_reducible assumption | with_reducible refine fr_shapeE (fun _ _ _ => rfl) (fun _ => ?_) | with_reducible apply FR.map | with_reducible apply FR.bind | with_reducible apply FR.array | with_reducible apply FR.range | with_reducible apply FR.arrayMapM | with_reducible apply FR.list | with_reducible apply FR.listM | with_reducible refine FR.ite ?_ ?_ | split | with_reducible intro _ | (dsimp only)
theorem fr_makeSlice (t : TypeId) (v x : Value) : FR P (Instr.makeSlice t v x) := by
  unfold Instr.makeSlice
  repeat first | with_reducible exact fr_asInt .. | with_reducible exact fr_runtimePanic .. | with_reducible exact fr_newRow .. | with_reducible exact fr_sizeOf .. | with_reducible exact fr_zeroValue .. | with_reducible exact fr_underlying .. | with_reducible exact fr_typeInfo .. | with_reducible exact fr_askRoom .. | with_reducible exact fr_stuck .. | with_reducible exact fr_choose .. | with_reducible exact FR.pure _ | with_reducible exact FR.halt _ | with_reducible assumption | with_reducible refine fr_shapeE (fun _ _ _ => rfl) (fun _ => ?_) | with_reducible apply FR.map | with_reducible apply FR.bind | with_reducible apply FR.array | with_reducible apply FR.range | with_reducible apply FR.arrayMapM | with_reducible apply FR.list | with_reducible apply FR.listM | with_reducible refine FR.ite ?_ ?_ | split | with_reducible intro _ | (dsimp only)
theorem fr_extract (v : Value) (n : Nat) : FR P (Instr.extract v n) := by
  unfold Instr.extract
  repeat first | with_reducible exact fr_stuck .. | with_reducible exact FR.pure _ | with_reducible exact FR.halt _ | with_reducible assumption | with_reducible refine fr_shapeE (fun _ _ _ => rfl) (fun _ => ?_) | with_reducible apply FR.map | with_reducible apply FR.bind | with_reducible apply FR.array | with_reducible apply FR.range | with_reducible apply FR.arrayMapM | with_reducible apply FR.list | with_reducible apply FR.listM | with_reducible refine FR.ite ?_ ?_ | split | with_reducible intro _ | (dsimp only)
theorem fr_makeFunc (f : Fn) (a b : Array Value) : FR P (Instr.makeFunc f a b) := by
  unfold Instr.makeFunc
  repeat first | with_reducible exact FR.pure _ | with_reducible exact FR.halt _ | with_reducible assumption | with_reducible refine fr_shapeE (fun _ _ _ => rfl) (fun _ => ?_) | with_reducible apply FR.map | with_reducible apply FR.bind | with_reducible apply FR.array | with_reducible apply FR.range | with_reducible apply FR.arrayMapM | with_reducible apply FR.list | with_reducible apply FR.listM | with_reducible refine FR.ite ?_ ?_ | split | with_reducible intro _ | (dsimp only)
theorem fr_intArith (op : BinOp) (k : IntKind) (x y : Int) : FR P (Op.intArith op k x y) := by
  unfold Op.intArith
  repeat first | with_reducible exact fr_stuck .. | with_reducible exact FR.pure _ | with_reducible exact FR.halt _ | with_reducible assumption | with_reducible refine fr_shapeE (fun _ _ _ => rfl) (fun _ => ?_) | with_reducible apply FR.map | with_reducible apply FR.bind | with_reducible apply FR.array | with_reducible apply FR.range | with_reducible apply FR.arrayMapM | with_reducible apply FR.list | with_reducible apply FR.listM | with_reducible refine FR.ite ?_ ?_ | split | with_reducible intro _ | (dsimp only)
theorem fr_intDiv (op : BinOp) (k : IntKind) (x y : Int) : FR P (Op.intDiv op k x y) := by
  unfold Op.intDiv
  repeat first | with_reducible exact fr_runtimePanic .. | with_reducible exact fr_stuck .. | with_reducible exact FR.pure _ | with_reducible exact FR.halt _ | with_reducible assumption | with_reducible refine fr_shapeE (fun _ _ _ => rfl) (fun _ => ?_) | with_reducible apply FR.map | with_reducible apply FR.bind | with_reducible apply FR.array | with_reducible apply FR.range | with_reducible apply FR.arrayMapM | with_reducible apply FR.list | with_reducible apply FR.listM | with_reducible refine FR.ite ?_ ?_ | split | with_reducible intro _ | (dsimp only)
theorem fr_intBits (op : BinOp) (k : IntKind) (x y : Int) : FR P (Op.intBits op k x y) := by
  unfold Op.intBits
  repeat first | with_reducible exact fr_stuck .. | with_reducible exact FR.pure _ | with_reducible exact FR.halt _ | with_reducible assumption | with_reducible refine fr_shapeE (fun _ _ _ => rfl) (fun _ => ?_) | with_reducible apply FR.map | with_reducible apply FR.bind | with_reducible apply FR.array | with_reducible apply FR.range | with_reducible apply FR.arrayMapM | with_reducible apply FR.list | with_reducible apply FR.listM | with_reducible refine FR.ite ?_ ?_ | split | with_reducible intro _ | (dsimp only)
theorem fr_shift (op : BinOp) (k k2 : IntKind) (x y : Int) : FR P (Op.shift op k x k2 y) := by
  unfold Op.shift
  repeat first | with_reducible exact fr_runtimePanic .. | with_reducible exact fr_stuck .. | with_reducible exact FR.pure _ | with_reducible exact FR.halt _ | with_reducible assumption | with_reducible refine fr_shapeE (fun _ _ _ => rfl) (fun _ => ?_) | with_reducible apply FR.map | with_reducible apply FR.bind | with_reducible apply FR.array | with_reducible apply FR.range | with_reducible apply FR.arrayMapM | with_reducible apply FR.list | with_reducible apply FR.listM | with_reducible refine FR.ite ?_ ?_ | split | with_reducible intro _ | (dsimp only)
theorem fr_intCmp (op : BinOp) (x y : Int) : FR P (Op.intCmp op x y) := by
  unfold Op.intCmp
  repeat first | with_reducible exact fr_stuck .. | with_reducible exact FR.pure _ | with_reducible exact FR.halt _ | with_reducible assumption | with_reducible refine fr_shapeE (fun _ _ _ => rfl) (fun _ => ?_) | with_reducible apply FR.map | with_reducible apply FR.bind | with_reducible apply FR.array | with_reducible apply FR.range | with_reducible apply FR.arrayMapM | with_reducible apply FR.list | with_reducible apply FR.listM | with_reducible refine FR.ite ?_ ?_ | split | with_reducible intro _ | (dsimp only)
theorem fr_floatArith (op : BinOp) (k : FloatKind) (x y : Nat) : FR P (Op.floatArith op k x y) := by
  unfold Op.floatArith
  repeat first | with_reducible exact fr_stuck .. | with_reducible exact fr_choose .. | with_reducible exact FR.pure _ | with_reducible exact FR.halt _ | with_reducible assumption | with_reducible refine fr_shapeE (fun _ _ _ => rfl) (fun _ => ?_) | with_reducible apply FR.map | with_reducible apply FR.bind | with_reducible apply FR.array | with_reducible apply FR.range | with_reducible apply FR.arrayMapM | with_reducible apply FR.list | with_reducible apply FR.listM | with_reducible refine FR.ite ?_ ?_ | split | with_reducible intro _ | (dsimp only)
theorem fr_floatCmp (op : BinOp) (k : FloatKind) (x y : Nat) : FR P (Op.floatCmp op k x y) := by
  unfold Op.floatCmp
  repeat first | with_reducible exact fr_stuck .. | with_reducible exact FR.pure _ | with_reducible exact FR.halt _ | with_reducible assumption | with_reducible refine fr_shapeE (fun _ _ _ => rfl) (fun _ => ?_) | with_reducible apply FR.map | with_reducible apply FR.bind | with_reducible apply FR.array | with_reducible apply FR.range | with_reducible apply FR.arrayMapM | with_reducible apply FR.list | with_reducible apply FR.listM | with_reducible refine FR.ite ?_ ?_ | split | with_reducible intro _ | (dsimp only)
theorem fr_unary (op : UnOp) (x : Value) : FR P (Op.unary op x) := by
  unfold Op.unary
  repeat first | with_reducible exact fr_intBits .. | with_reducible exact fr_intArith .. | with_reducible exact fr_unsupported .. | with_reducible exact fr_stuck .. | with_reducible exact FR.pure _ | with_reducible exact FR.halt _ | with_reducible assumption | with_reducible refine fr_shapeE (fun _ _ _ => rfl) (fun _ => ?_) | with_reducible apply FR.map | with_reducible apply FR.bind | with_reducible apply FR.array | with_reducible apply FR.range | with_reducible apply FR.arrayMapM | with_reducible apply FR.list | with_reducible apply FR.listM | with_reducible refine FR.ite ?_ ?_ | split | with_reducible intro _ | (dsimp only)
theorem fr_intToInt (k : IntKind) (n : Int) : FR P (Conv.intToInt k n) := by
  unfold Conv.intToInt
  repeat first | with_reducible exact FR.pure _ | with_reducible exact FR.halt _ | with_reducible assumption | with_reducible refine fr_shapeE (fun _ _ _ => rfl) (fun _ => ?_) | with_reducible apply FR.map | with_reducible apply FR.bind | with_reducible apply FR.array | with_reducible apply FR.range | with_reducible apply FR.arrayMapM | with_reducible apply FR.list | with_reducible apply FR.listM | with_reducible refine FR.ite ?_ ?_ | split | with_reducible intro _ | (dsimp only)
theorem fr_intToFloat (k : FloatKind) (n : Int) : FR P (Conv.intToFloat k n) := by
  unfold Conv.intToFloat
  repeat first | with_reducible exact FR.pure _ | with_reducible exact FR.halt _ | with_reducible assumption | with_reducible refine fr_shapeE (fun _ _ _ => rfl) (fun _ => ?_) | with_reducible apply FR.map | with_reducible apply FR.bind | with_reducible apply FR.array | with_reducible apply FR.range | with_reducible apply FR.arrayMapM | with_reducible apply FR.list | with_reducible apply FR.listM | with_reducible refine FR.ite ?_ ?_ | split | with_reducible intro _ | (dsimp only)
theorem fr_floatToInt (k : FloatKind) (n : Nat) (d : IntKind) : FR P (Conv.floatToInt k n d) := by
  unfold Conv.floatToInt
  repeat first | with_reducible exact fr_choose .. | with_reducible exact FR.pure _ | with_reducible exact FR.halt _ | with_reducible assumption | with_reducible refine fr_shapeE (fun _ _ _ => rfl) (fun _ => ?_) | with_reducible apply FR.map | with_reducible apply FR.bind | with_reducible apply FR.array | with_reducible apply FR.range | with_reducible apply FR.arrayMapM | with_reducible apply FR.list | with_reducible apply FR.listM | with_reducible refine FR.ite ?_ ?_ | split | with_reducible intro _ | (dsimp only)
theorem fr_floatToFloat (k : FloatKind) (n : Nat) (d : FloatKind) : FR P (Conv.floatToFloat k n d) := by
  unfold Conv.floatToFloat
  repeat first | with_reducible exact fr_choose .. | with_reducible exact FR.pure _ | with_reducible exact FR.halt _ | with_reducible assumption | with_reducible refine fr_shapeE (fun _ _ _ => rfl) (fun _ => ?_) | with_reducible apply FR.map | with_reducible apply FR.bind | with_reducible apply FR.array | with_reducible apply FR.range | with_reducible apply FR.arrayMapM | with_reducible apply FR.list | with_reducible apply FR.listM | with_reducible refine FR.ite ?_ ?_ | split | with_reducible intro _ | (dsimp only)
theorem fr_lenOf (x : Value) : FR P (Builtin.lenOf x) := by
  unfold Builtin.lenOf
  repeat first | with_reducible exact fr_stuck .. | with_reducible exact FR.pure _ | with_reducible exact FR.halt _ | with_reducible assumption | with_reducible refine fr_shapeE (fun _ _ _ => rfl) (fun _ => ?_) | with_reducible apply FR.map | with_reducible apply FR.bind | with_reducible apply FR.array | with_reducible apply FR.range | with_reducible apply FR.arrayMapM | with_reducible apply FR.list | with_reducible apply FR.listM | with_reducible refine FR.ite ?_ ?_ | split | with_reducible intro _ | (dsimp only)
theorem fr_firstCells (a b : Nat) (x : Value) : FR P (Builtin.firstCells a b x) := by
  unfold Builtin.firstCells
  repeat first | with_reducible exact fr_loadCells .. | with_reducible exact fr_stuck .. | with_reducible exact FR.pure _ | with_reducible exact FR.halt _ | with_reducible assumption | with_reducible refine fr_shapeE (fun _ _ _ => rfl) (fun _ => ?_) | with_reducible apply FR.map | with_reducible apply FR.bind | with_reducible apply FR.array | with_reducible apply FR.range | with_reducible apply FR.arrayMapM | with_reducible apply FR.list | with_reducible apply FR.listM | with_reducible refine FR.ite ?_ ?_ | split | with_reducible intro _ | (dsimp only)
theorem fr_stringOp (op : BinOp) (x y : ByteArray) : FR P (Op.stringOp op x y) := by
  unfold Op.stringOp
  repeat first | with_reducible exact fr_unsupported .. | with_reducible exact fr_stuck .. | with_reducible exact FR.pure _ | with_reducible exact FR.halt _ | with_reducible assumption | with_reducible refine fr_shapeE (fun _ _ _ => rfl) (fun _ => ?_) | with_reducible apply FR.map | with_reducible apply FR.bind | with_reducible apply FR.array | with_reducible apply FR.range | with_reducible apply FR.arrayMapM | with_reducible apply FR.list | with_reducible apply FR.listM | with_reducible refine FR.ite ?_ ?_ | split | with_reducible intro _ | (dsimp only)
theorem fr_min2 (x y : Value) : FR P (Builtin.min2 x y) := by
  unfold Builtin.min2
  repeat first | with_reducible exact fr_stringOp .. | with_reducible exact fr_asBool .. | with_reducible exact fr_unsupported .. | with_reducible exact fr_stuck .. | with_reducible exact fr_choose .. | with_reducible exact FR.pure _ | with_reducible exact FR.halt _ | with_reducible assumption | with_reducible refine fr_shapeE (fun _ _ _ => rfl) (fun _ => ?_) | with_reducible apply FR.map | with_reducible apply FR.bind | with_reducible apply FR.array | with_reducible apply FR.range | with_reducible apply FR.arrayMapM | with_reducible apply FR.list | with_reducible apply FR.listM | with_reducible refine FR.ite ?_ ?_ | split | with_reducible intro _ | (dsimp only)
theorem fr_min (t : Array TypeId) (u : TypeId) (x : Array Value) : FR P (Builtin.min_ t u x) := by
  unfold Builtin.min_
  repeat first | with_reducible exact fr_min2 .. | with_reducible exact fr_stuck .. | with_reducible exact FR.pure _ | with_reducible exact FR.halt _ | with_reducible assumption | with_reducible refine fr_shapeE (fun _ _ _ => rfl) (fun _ => ?_) | with_reducible apply FR.map | with_reducible apply FR.bind | with_reducible apply FR.array | with_reducible apply FR.range | with_reducible apply FR.arrayMapM | with_reducible apply FR.list | with_reducible apply FR.listM | with_reducible refine FR.ite ?_ ?_ | split | with_reducible intro _ | (dsimp only)
theorem fr_len (t : Array TypeId) (u : TypeId) (x : Array Value) : FR P (Builtin.len_ t u x) := by
  unfold Builtin.len_
  repeat first | with_reducible exact fr_underlying .. | with_reducible exact fr_stuck .. | with_reducible refine fr_getObj_bind (fun _ _ _ _ _ h => by simp [stuck] at h) (fun _ => ?_) | with_reducible exact FR.pure _ | with_reducible exact FR.halt _ | with_reducible assumption | with_reducible refine fr_shapeE (fun _ _ _ => rfl) (fun _ => ?_) | with_reducible apply FR.map | with_reducible apply FR.bind | with_reducible apply FR.array | with_reducible apply FR.range | with_reducible apply FR.arrayMapM | with_reducible apply FR.list | with_reducible apply FR.listM | with_reducible refine FR.ite ?_ ?_ | split | with_reducible intro _ | (dsimp only)
end
end Go.Proofs.Ytgeflnjjppgooaa

namespace Go.Proofs.Ytgeflnjjppgooaa
open Go
section
variable {P : Program}
theorem fr_byteOf (a : Addr) : FR P (byteOf a) := by
  unfold byteOf
  repeat first | with_reducible exact fr_noView .. | with_reducible exact fr_stuck .. | with_reducible exact fr_program .. | with_reducible exact FR.pure _ | with_reducible exact FR.halt _ | with_reducible assumption | with_reducible refine fr_shapeE (fun _ _ _ => rfl) (fun _ => ?_) | with_reducible apply FR.map | with_reducible apply FR.bind | with_reducible apply FR.array | with_reducible apply FR.range | with_reducible apply FR.arrayMapM | with_reducible apply FR.list | with_reducible apply FR.listM | with_reducible refine FR.ite ?_ ?_ | split | with_reducible intro _ | (dsimp only)
theorem fr_partAt (base : Addr) (cells bytes : Nat) : FR P (partAt base cells bytes) := by
  unfold partAt
  repeat first | with_reducible exact fr_byteOf .. | with_reducible exact FR.pure _ | with_reducible exact FR.halt _ | with_reducible assumption | with_reducible refine fr_shapeE (fun _ _ _ => rfl) (fun _ => ?_) | with_reducible apply FR.map | with_reducible apply FR.bind | with_reducible apply FR.array | with_reducible apply FR.range | with_reducible apply FR.arrayMapM | with_reducible apply FR.list | with_reducible apply FR.listM | with_reducible refine FR.ite ?_ ?_ | split | with_reducible intro _ | (dsimp only)
theorem fr_fieldPlace (a : Addr) (f : Field) : FR P (fieldPlace a f) := by
  unfold fieldPlace
  repeat first | with_reducible exact fr_partAt .. | with_reducible exact fr_sizeOf .. | with_reducible exact FR.pure _ | with_reducible exact FR.halt _ | with_reducible assumption | with_reducible refine fr_shapeE (fun _ _ _ => rfl) (fun _ => ?_) | with_reducible apply FR.map | with_reducible apply FR.bind | with_reducible apply FR.array | with_reducible apply FR.range | with_reducible apply FR.arrayMapM | with_reducible apply FR.list | with_reducible apply FR.listM | with_reducible refine FR.ite ?_ ?_ | split | with_reducible intro _ | (dsimp only)
theorem fr_Op_twoPlaces (a b : Addr) : FR P (Op.twoPlaces a b) := by
  unfold Op.twoPlaces
  repeat first | with_reducible exact fr_byteOf .. | with_reducible exact fr_unsupported .. | with_reducible exact fr_program .. | with_reducible exact FR.pure _ | with_reducible exact FR.halt _ | with_reducible assumption | with_reducible refine fr_shapeE (fun _ _ _ => rfl) (fun _ => ?_) | with_reducible apply FR.map | with_reducible apply FR.bind | with_reducible apply FR.array | with_reducible apply FR.range | with_reducible apply FR.arrayMapM | with_reducible apply FR.list | with_reducible apply FR.listM | with_reducible refine FR.ite ?_ ?_ | split | with_reducible intro _ | (dsimp only)
theorem fr_Op_addrSub (k : IntKind) (a b : Addr) : FR P (Op.addrSub k a b) := by
  unfold Op.addrSub
  repeat first | with_reducible exact fr_Op_twoPlaces .. | with_reducible exact FR.pure _ | with_reducible exact FR.halt _ | with_reducible assumption | with_reducible refine fr_shapeE (fun _ _ _ => rfl) (fun _ => ?_) | with_reducible apply FR.map | with_reducible apply FR.bind | with_reducible apply FR.array | with_reducible apply FR.range | with_reducible apply FR.arrayMapM | with_reducible apply FR.list | with_reducible apply FR.listM | with_reducible refine FR.ite ?_ ?_ | split | with_reducible intro _ | (dsimp only)
theorem fr_Op_addrCmp (op : BinOp) (a b : Addr) : FR P (Op.addrCmp op a b) := by
  unfold Op.addrCmp
  repeat first | with_reducible exact fr_Op_twoPlaces .. | with_reducible exact fr_unsupported .. | with_reducible exact FR.pure _ | with_reducible exact FR.halt _ | with_reducible assumption | with_reducible refine fr_shapeE (fun _ _ _ => rfl) (fun _ => ?_) | with_reducible apply FR.map | with_reducible apply FR.bind | with_reducible apply FR.array | with_reducible apply FR.range | with_reducible apply FR.arrayMapM | with_reducible apply FR.list | with_reducible apply FR.listM | with_reducible refine FR.ite ?_ ?_ | split | with_reducible intro _ | (dsimp only)
theorem fr_Op_addrMod (k : IntKind) (a : Addr) (n : Int) : FR P (Op.addrMod k a n) := by
  unfold Op.addrMod
  repeat first | with_reducible exact fr_byteOf .. | with_reducible exact fr_typeInfo .. | with_reducible exact fr_unsupported .. | with_reducible exact FR.pure _ | with_reducible exact FR.halt _ | with_reducible assumption | with_reducible refine fr_shapeE (fun _ _ _ => rfl) (fun _ => ?_) | with_reducible apply FR.map | with_reducible apply FR.bind | with_reducible apply FR.array | with_reducible apply FR.range | with_reducible apply FR.arrayMapM | with_reducible apply FR.list | with_reducible apply FR.listM | with_reducible refine FR.ite ?_ ?_ | split | with_reducible intro _ | (dsimp only)
theorem fr_Instr_fieldAt (s : TypeId) (addr : Value) (field : Nat) : FR P (Instr.fieldAt s addr field) := by
  unfold Instr.fieldAt
  repeat first | with_reducible exact fr_fieldPlace .. | with_reducible exact fr_sureAddr .. | with_reducible exact fr_underlying .. | with_reducible exact fr_stuck .. | with_reducible exact FR.pure _ | with_reducible exact FR.halt _ | with_reducible assumption | with_reducible refine fr_shapeE (fun _ _ _ => rfl) (fun _ => ?_) | with_reducible apply FR.map | with_reducible apply FR.bind | with_reducible apply FR.array | with_reducible apply FR.range | with_reducible apply FR.arrayMapM | with_reducible apply FR.list | with_reducible apply FR.listM | with_reducible refine FR.ite ?_ ?_ | split | with_reducible intro _ | (dsimp only)
theorem fr_Op_Complex_arith (op : BinOp) (k : FloatKind) (x y : Nat) : FR P (Op.Complex.arith op k x y) := by
  unfold Op.Complex.arith
  repeat first | with_reducible exact fr_floatArith .. | with_reducible exact fr_stuck .. | with_reducible exact FR.pure _ | with_reducible exact FR.halt _ | with_reducible assumption | with_reducible refine fr_shapeE (fun _ _ _ => rfl) (fun _ => ?_) | with_reducible apply FR.map | with_reducible apply FR.bind | with_reducible apply FR.array | with_reducible apply FR.range | with_reducible apply FR.arrayMapM | with_reducible apply FR.list | with_reducible apply FR.listM | with_reducible refine FR.ite ?_ ?_ | split | with_reducible intro _ | (dsimp only)
theorem fr_Op_Complex_cmp (op : BinOp) (k : FloatKind) (x y : Nat) : FR P (Op.Complex.cmp op k x y) := by
  unfold Op.Complex.cmp
  repeat first | with_reducible exact fr_floatCmp .. | with_reducible exact fr_asBool .. | with_reducible exact FR.pure _ | with_reducible exact FR.halt _ | with_reducible assumption | with_reducible refine fr_shapeE (fun _ _ _ => rfl) (fun _ => ?_) | with_reducible apply FR.map | with_reducible apply FR.bind | with_reducible apply FR.array | with_reducible apply FR.range | with_reducible apply FR.arrayMapM | with_reducible apply FR.list | with_reducible apply FR.listM | with_reducible refine FR.ite ?_ ?_ | split | with_reducible intro _ | (dsimp only)
theorem fr_Op_Complex_conv (src : FloatKind) (x : Nat) (dst : FloatKind) : FR P (Op.Complex.conv src x dst) := by
  unfold Op.Complex.conv
  repeat first | with_reducible exact fr_floatToFloat .. | with_reducible exact fr_stuck .. | with_reducible exact FR.pure _ | with_reducible exact FR.halt _ | with_reducible assumption | with_reducible refine fr_shapeE (fun _ _ _ => rfl) (fun _ => ?_) | with_reducible apply FR.map | with_reducible apply FR.bind | with_reducible apply FR.array | with_reducible apply FR.range | with_reducible apply FR.arrayMapM | with_reducible apply FR.list | with_reducible apply FR.listM | with_reducible refine FR.ite ?_ ?_ | split | with_reducible intro _ | (dsimp only)
theorem fr_cx_mul (a b : Nat) : FR P (Op.Complex.mul a b) := by
  unfold Op.Complex.mul
  repeat first | with_reducible exact fr_Op_Complex_arith .. | with_reducible exact FR.pure _ | with_reducible exact FR.halt _ | with_reducible assumption | with_reducible refine fr_shapeE (fun _ _ _ => rfl) (fun _ => ?_) | with_reducible apply FR.map | with_reducible apply FR.bind | with_reducible apply FR.array | with_reducible apply FR.range | with_reducible apply FR.arrayMapM | with_reducible apply FR.list | with_reducible apply FR.listM | with_reducible refine FR.ite ?_ ?_ | split | with_reducible intro _ | (dsimp only)
theorem fr_cx_add (a b : Nat) : FR P (Op.Complex.add a b) := by
  unfold Op.Complex.add
  repeat first | with_reducible exact fr_Op_Complex_arith .. | with_reducible exact FR.pure _ | with_reducible exact FR.halt _ | with_reducible assumption | with_reducible refine fr_shapeE (fun _ _ _ => rfl) (fun _ => ?_) | with_reducible apply FR.map | with_reducible apply FR.bind | with_reducible apply FR.array | with_reducible apply FR.range | with_reducible apply FR.arrayMapM | with_reducible apply FR.list | with_reducible apply FR.listM | with_reducible refine FR.ite ?_ ?_ | split | with_reducible intro _ | (dsimp only)
theorem fr_cx_sub (a b : Nat) : FR P (Op.Complex.sub a b) := by
  unfold Op.Complex.sub
  repeat first | with_reducible exact fr_Op_Complex_arith .. | with_reducible exact FR.pure _ | with_reducible exact FR.halt _ | with_reducible assumption | with_reducible refine fr_shapeE (fun _ _ _ => rfl) (fun _ => ?_) | with_reducible apply FR.map | with_reducible apply FR.bind | with_reducible apply FR.array | with_reducible apply FR.range | with_reducible apply FR.arrayMapM | with_reducible apply FR.list | with_reducible apply FR.listM | with_reducible refine FR.ite ?_ ?_ | split | with_reducible intro _ | (dsimp only)
theorem fr_cx_quo (a b : Nat) : FR P (Op.Complex.quo a b) := by
  unfold Op.Complex.quo
  repeat first | with_reducible exact fr_Op_Complex_arith .. | with_reducible exact FR.pure _ | with_reducible exact FR.halt _ | with_reducible assumption | with_reducible refine fr_shapeE (fun _ _ _ => rfl) (fun _ => ?_) | with_reducible apply FR.map | with_reducible apply FR.bind | with_reducible apply FR.array | with_reducible apply FR.range | with_reducible apply FR.arrayMapM | with_reducible apply FR.list | with_reducible apply FR.listM | with_reducible refine FR.ite ?_ ?_ | split | with_reducible intro _ | (dsimp only)
theorem fr_Op_Complex_product (a b c d : Nat) : FR P (Op.Complex.product a b c d) := by
  unfold Op.Complex.product
  repeat first | with_reducible exact fr_cx_sub .. | with_reducible exact fr_cx_add .. | with_reducible exact fr_cx_mul .. | with_reducible exact FR.pure _ | with_reducible exact FR.halt _ | with_reducible assumption | with_reducible refine fr_shapeE (fun _ _ _ => rfl) (fun _ => ?_) | with_reducible apply FR.map | with_reducible apply FR.bind | with_reducible apply FR.array | with_reducible apply FR.range | with_reducible apply FR.arrayMapM | with_reducible apply FR.list | with_reducible apply FR.listM | with_reducible refine FR.ite ?_ ?_ | split | with_reducible intro _ | (dsimp only)
theorem fr_Op_Complex_corrected (scale a b c d : Nat) : FR P (Op.Complex.corrected scale a b c d) := by
  unfold Op.Complex.corrected
  repeat first | with_reducible exact fr_cx_sub .. | with_reducible exact fr_cx_add .. | with_reducible exact fr_cx_mul .. | with_reducible exact FR.pure _ | with_reducible exact FR.halt _ | with_reducible assumption | with_reducible refine fr_shapeE (fun _ _ _ => rfl) (fun _ => ?_) | with_reducible apply FR.map | with_reducible apply FR.bind | with_reducible apply FR.array | with_reducible apply FR.range | with_reducible apply FR.arrayMapM | with_reducible apply FR.list | with_reducible apply FR.listM | with_reducible refine FR.ite ?_ ?_ | split | with_reducible intro _ | (dsimp only)
theorem fr_Op_Complex_quotient (a b c d : Nat) : FR P (Op.Complex.quotient a b c d) := by
  unfold Op.Complex.quotient
  repeat first | with_reducible exact fr_Op_Complex_corrected .. | with_reducible exact fr_cx_quo .. | with_reducible exact fr_cx_sub .. | with_reducible exact fr_cx_add .. | with_reducible exact fr_cx_mul .. | with_reducible exact fr_Op_Complex_cmp .. | with_reducible exact FR.pure _ | with_reducible exact FR.halt _ | with_reducible assumption | with_reducible refine fr_shapeE (fun _ _ _ => rfl) (fun _ => ?_) | with_reducible apply FR.map | with_reducible apply FR.bind | with_reducible apply FR.array | with_reducible apply FR.range | with_reducible apply FR.arrayMapM | with_reducible apply FR.list | with_reducible apply FR.listM | with_reducible refine FR.ite ?_ ?_ | split | with_reducible intro _ | (dsimp only)
theorem fr_Op_complexOp (op : BinOp) (k : FloatKind) (xr xi yr yi : Nat) : FR P (Op.complexOp op k xr xi yr yi) := by
  unfold Op.complexOp
  repeat first | with_reducible exact fr_Op_Complex_quotient .. | with_reducible exact fr_Op_Complex_product .. | with_reducible exact fr_Op_Complex_conv .. | with_reducible exact fr_Op_Complex_cmp .. | with_reducible exact fr_Op_Complex_arith .. | with_reducible exact fr_stuck .. | with_reducible exact FR.pure _ | with_reducible exact FR.halt _ | with_reducible assumption | with_reducible refine fr_shapeE (fun _ _ _ => rfl) (fun _ => ?_) | with_reducible apply FR.map | with_reducible apply FR.bind | with_reducible apply FR.array | with_reducible apply FR.range | with_reducible apply FR.arrayMapM | with_reducible apply FR.list | with_reducible apply FR.listM | with_reducible refine FR.ite ?_ ?_ | split | with_reducible intro _ | (dsimp only)
theorem fr_Conv_complexToComplex (src : FloatKind) (re im : Nat) (dst : FloatKind) : FR P (Conv.complexToComplex src re im dst) := by
  unfold Conv.complexToComplex
  repeat first | with_reducible exact fr_floatToFloat .. | with_reducible exact fr_stuck .. | with_reducible exact FR.pure _ | with_reducible exact FR.halt _ | with_reducible assumption | with_reducible refine fr_shapeE (fun _ _ _ => rfl) (fun _ => ?_) | with_reducible apply FR.map | with_reducible apply FR.bind | with_reducible apply FR.array | with_reducible apply FR.range | with_reducible apply FR.arrayMapM | with_reducible apply FR.list | with_reducible apply FR.listM | with_reducible refine FR.ite ?_ ?_ | split | with_reducible intro _ | (dsimp only)
theorem fr_Instr_build (t : TypeId) (parts : Array (Nat × Value)) : FR P (Instr.build t parts) := by
  unfold Instr.build
  repeat first | with_reducible exact fr_sizeOf .. | with_reducible exact fr_zeroValue .. | with_reducible exact fr_underlying .. | with_reducible exact fr_stuck .. | with_reducible exact FR.pure _ | with_reducible exact FR.halt _ | with_reducible assumption | with_reducible refine fr_shapeE (fun _ _ _ => rfl) (fun _ => ?_) | with_reducible apply FR.map | with_reducible apply FR.bind | with_reducible apply FR.array | with_reducible apply FR.range | with_reducible apply FR.arrayMapM | with_reducible apply FR.list | with_reducible apply FR.listM | with_reducible refine FR.ite ?_ ?_ | split | with_reducible intro _ | (dsimp only)
theorem fr_Instr_buildSlice (t : TypeId) (n : Nat) (parts : Array (Nat × Value)) : FR P (Instr.buildSlice t n parts) := by
  unfold Instr.buildSlice
  repeat first | with_reducible exact fr_newRow .. | with_reducible exact fr_sizeOf .. | with_reducible exact fr_zeroValue .. | with_reducible exact fr_underlying .. | with_reducible exact fr_unsupported .. | with_reducible exact fr_stuck .. | with_reducible exact FR.pure _ | with_reducible exact FR.halt _ | with_reducible assumption | with_reducible refine fr_shapeE (fun _ _ _ => rfl) (fun _ => ?_) | with_reducible apply FR.map | with_reducible apply FR.bind | with_reducible apply FR.array | with_reducible apply FR.range | with_reducible apply FR.arrayMapM | with_reducible apply FR.list | with_reducible apply FR.listM | with_reducible refine FR.ite ?_ ?_ | split | with_reducible intro _ | (dsimp only)
theorem fr_eqGuardIn : ∀ (d : Nat) (t : TypeId) (x y : Value), FR P (Op.eqGuardIn d t x y)
  | 0, _, _, _ => by unfold Op.eqGuardIn; exact FR.halt _
  | d + 1, t, x, y => by
    have ih := fr_eqGuardIn d
    unfold Op.eqGuardIn
    repeat first | with_reducible exact fr_part .. | with_reducible exact fr_sizeOf .. | with_reducible exact fr_underlying .. | with_reducible exact ih .. | with_reducible exact FR.pure _ | with_reducible exact FR.halt _ | with_reducible assumption | with_reducible refine fr_shapeE (fun _ _ _ => rfl) (fun _ => ?_) | with_reducible apply FR.map | with_reducible apply FR.bind | with_reducible apply FR.array | with_reducible apply FR.range | with_reducible apply FR.arrayMapM | with_reducible apply FR.list | with_reducible apply FR.listM | with_reducible refine FR.ite ?_ ?_ | split | with_reducible intro _ | (dsimp only)
theorem fr_eqGuard (op : BinOp) (t : TypeId) (x y : Operand) (a b : Value) : FR P (eqGuard op t x y a b) := by
  unfold eqGuard
  repeat first | with_reducible exact fr_eqGuardIn .. | with_reducible exact fr_unsupported .. | with_reducible exact fr_program .. | with_reducible exact FR.pure _ | with_reducible exact FR.halt _ | with_reducible assumption | with_reducible refine fr_shapeE (fun _ _ _ => rfl) (fun _ => ?_) | with_reducible apply FR.map | with_reducible apply FR.bind | with_reducible apply FR.array | with_reducible apply FR.range | with_reducible apply FR.arrayMapM | with_reducible apply FR.list | with_reducible apply FR.listM | with_reducible refine FR.ite ?_ ?_ | split | with_reducible intro _ | (dsimp only)
end
end Go.Proofs.Ytgeflnjjppgooaa

namespace Go.Proofs.Ytgeflnjjppgooaa
open Go
section
variable {P : Program}
theorem fr_known {α β : Type} {x : Sem α} {f : α → Sem β} {a : α} (hx : ∀ u, x.run P u = .ok a u) (hf : FR P (f a)) (hF : FR P x) : FR P (x >>= f) := fun v w h b v' hr => by
  obtain ⟨w1, h1, h2, h3⟩ := hF v w h a v (hx v)
  rw [hx w] at h1
  cases h1
  rw [Sem.run_bind, hx v, Result.andThen_ok] at hr
  obtain ⟨w', k1, k2, k3⟩ := hf v w h b v' hr
  refine ⟨w', by rw [Sem.run_bind, hx w]; exact k1, k2, fun es e he => ?_⟩
  rw [Sem.events_bind, hx w, Result.evThen_ok] at he
  rcases k3 _ e he with he | he
  · rcases h3 _ e he with he | he
    · exact .inl he
    · exact .inr (he.mono k2.grow)
  · exact .inr he
theorem fr_underlying_bind {β : Type} {t : TypeId} {d : TypeDesc} {f : TypeDesc → Sem β} (ht : P.underlying t = some d) (hf : FR P (f d)) : FR P (underlying t >>= f) := fr_known (fun u => run_underlying ht u) hf (fr_underlying t)
theorem fr_shapeD {α : Type} {r : Nat} {k : Option (TypeId × Nat) → Sem α} (hz : ∀ e u b v', (k (some (e, 0))).run P u ≠ .ok b v') (hk : ∀ s, FR P (k s)) : FR P (shape r >>= k) := fun v w h a v' hr => by
  have run : ∀ u : World, (shape r >>= k).run P u = (k (u.shape? r)).run P u := fun _ => rfl
  have ev : ∀ (u : World) es, (shape r >>= k).events P u es = (k (u.shape? r)).events P u es := fun _ _ => rfl
  have heq : (∃ e, v.shape? r = some (e, 0)) ∨ v.shape? r = w.shape? r := by
    have hb := h.blk r
    unfold World.shape?
    generalize v.heap[r]? = x at hb
    generalize w.heap[r]? = y at hb
    cases hb with
    | same _ => exact .inr rfl
    | view => exact .inr rfl
    | dead => exact .inl ⟨_, rfl⟩
    | fro => exact .inr rfl
  rw [run] at hr
  rcases heq with ⟨e, he⟩ | heq
  · rw [he] at hr; exact absurd hr (hz _ _ _ _)
  obtain ⟨w', h1, h2, h3⟩ := hk _ v w h a v' hr
  refine ⟨w', by rw [run, ← heq]; exact h1, h2, fun es e he => ?_⟩
  rw [ev, ← heq] at he
  exact h3 es e he
/-- Types whose values are compared without a look at memory's shape. -/
def plainD : TypeDesc → Bool
  | .bool | .int _ | .float _ | .complex _ | .string | .slice _ => true
  | _ => false
theorem fr_equal {t : TypeId} {d : TypeDesc} (ht : P.underlying t = some d) (hd : plainD d = true) (x y : Value) : FR P (Op.equal t x y) := by
  show FR P (Op.equalIn (9999 + 1) t x y)
  unfold Op.equalIn
  refine fr_underlying_bind ht ?_
  cases d <;> first | exact absurd hd Bool.false_ne_true | skip
  all_goals repeat first | contradiction | with_reducible exact fr_byteOf .. | with_reducible exact fr_typeInfo .. | with_reducible exact fr_behindNumber .. | with_reducible exact fr_unsupported .. | with_reducible exact fr_stuck .. | with_reducible exact fr_program .. | with_reducible exact FR.pure _ | with_reducible exact FR.halt _ | with_reducible assumption | with_reducible refine fr_shapeE (fun _ _ _ => rfl) (fun _ => ?_) | with_reducible apply FR.map | with_reducible apply FR.bind | with_reducible apply FR.array | with_reducible apply FR.range | with_reducible apply FR.arrayMapM | with_reducible apply FR.list | with_reducible apply FR.listM | with_reducible refine FR.ite ?_ ?_ | split | with_reducible intro _ | (dsimp only)
theorem cellAtBytes_none (p : Program) (d : Nat) (e : TypeId) (o : Nat) (n : Int) : cellAtBytes p d e 0 o n = none := by
  unfold cellAtBytes
  simp only [Nat.zero_mul]
  repeat (first | rfl | split | (simp only [bind, Option.bind]))
  rename_i h
  refine absurd ?_ h
  simp only [Bool.or_eq_true, decide_eq_true_eq]
  show _ ∨ _ ≥ (0 : Int)
  omega
theorem fr_unsafeAdd (l : Array TypeId) (t : TypeId) (x y : Value) : FR P (Builtin.unsafeAdd_ l t #[x, y]) := by
  unfold Builtin.unsafeAdd_
  cases x <;> first | exact FR.halt _ | skip
  rename_i ptr
  dsimp only
  refine FR.bind (fr_asInt _) fun n => ?_
  split
  · cases ptr with
    | none => exact FR.halt _
    | some a =>
      dsimp only
      refine fr_viewAt_bind (fun x u b v' h => ?_) (FR.pure _)
      simp [unsupported] at h
  · split
    · show FR P (Sem.halt _)
      exact FR.halt _
    · cases ptr with
      | none => exact FR.halt _
      | some a =>
        dsimp only
        refine fr_shapeD (fun e u b v' h => ?_) (fun s => ?_)
        · simp [program, cellAtBytes_none, unsupported, Sem.run] at h
        · cases s with
          | none => exact FR.halt _
          | some p =>
            dsimp only
            refine FR.bind fr_program fun q => ?_
            split
            · exact FR.pure _
            · exact FR.halt _
theorem fr_movedNumber (t : TypeId) (x y : Value) : FR P (movedNumber t x y) := by
  unfold movedNumber
  repeat first | with_reducible exact fr_unsafeAdd .. | with_reducible exact fr_underlying .. | with_reducible exact fr_behindNumber .. | with_reducible exact fr_asNumber .. | with_reducible exact fr_unsupported .. | with_reducible exact FR.pure _ | with_reducible exact FR.halt _ | with_reducible assumption | with_reducible refine fr_shapeE (fun _ _ _ => rfl) (fun _ => ?_) | with_reducible apply FR.map | with_reducible apply FR.bind | with_reducible apply FR.array | with_reducible apply FR.range | with_reducible apply FR.arrayMapM | with_reducible apply FR.list | with_reducible apply FR.listM | with_reducible refine FR.ite ?_ ?_ | split | with_reducible intro _ | (dsimp only)
theorem fr_movedPointer (t : TypeId) (x y : Value) : FR P (movedPointer t x y) := by
  unfold movedPointer
  repeat first | with_reducible exact fr_unsafeAdd .. | with_reducible exact fr_numberAt .. | with_reducible exact fr_unsupported .. | with_reducible exact FR.pure _ | with_reducible exact FR.halt _ | with_reducible assumption | with_reducible refine fr_shapeE (fun _ _ _ => rfl) (fun _ => ?_) | with_reducible apply FR.map | with_reducible apply FR.bind | with_reducible apply FR.array | with_reducible apply FR.range | with_reducible apply FR.arrayMapM | with_reducible apply FR.list | with_reducible apply FR.listM | with_reducible refine FR.ite ?_ ?_ | split | with_reducible intro _ | (dsimp only)
theorem fr_followBlind : ∀ (l : List FieldStep) (t : TypeId) (x : Option Value), FR P (followBlind l t x)
  | [], _, _ => FR.pure _
  | s :: rest, t, x => by
    have ih := fr_followBlind rest
    unfold followBlind
    repeat first | with_reducible exact fr_part .. | with_reducible exact fr_underlying .. | with_reducible exact fr_stuck .. | with_reducible exact ih .. | with_reducible exact FR.pure _ | with_reducible exact FR.halt _ | with_reducible assumption | with_reducible refine fr_shapeE (fun _ _ _ => rfl) (fun _ => ?_) | with_reducible apply FR.map | with_reducible apply FR.bind | with_reducible apply FR.array | with_reducible apply FR.range | with_reducible apply FR.arrayMapM | with_reducible apply FR.list | with_reducible apply FR.listM | with_reducible refine FR.ite ?_ ?_ | split | with_reducible intro _ | (dsimp only)
theorem fr_nilAhead : ∀ (n : Nat) (t : TypeId) (x : Value) (s : String), FR P (nilAhead n t x s)
  | 0, _, _, _ => FR.pure _
  | n + 1, t, x, s => by
    have ih := fr_nilAhead n
    have ih2 := fr_followBlind (P := P)
    unfold nilAhead
    repeat first | with_reducible exact fr_underlying .. | with_reducible exact fr_typeInfo .. | with_reducible exact fr_stuck .. | with_reducible exact ih .. | with_reducible exact ih2 .. | with_reducible exact FR.pure _ | with_reducible exact FR.halt _ | with_reducible assumption | with_reducible refine fr_shapeE (fun _ _ _ => rfl) (fun _ => ?_) | with_reducible apply FR.map | with_reducible apply FR.bind | with_reducible apply FR.array | with_reducible apply FR.range | with_reducible apply FR.arrayMapM | with_reducible apply FR.list | with_reducible apply FR.listM | with_reducible refine FR.ite ?_ ?_ | split | with_reducible intro _ | (dsimp only)
theorem fr_mayShare_bind {β : Type} {a b c : Nat} {d : Option Addr} {x : Value} {f : Bool → Sem β} (hf : ∀ s u b v', (f s).run P u ≠ .ok b v') : FR P (Builtin.mayShare a b c d x >>= f) := FR.never (never_bind fun s u b v' => hf s u b v')
theorem fr_binOp {t : TypeId} {d : TypeDesc} (ht : P.underlying t = some d) (hd : plainD d = true) (op : BinOp) (x y : Value) : FR P (binOp op t x y) := by
  have heq := fr_equal ht hd
  unfold binOp
  split <;> repeat first | with_reducible exact fr_movedPointer .. | with_reducible exact fr_movedNumber .. | with_reducible exact fr_Op_complexOp .. | with_reducible exact fr_Op_addrMod .. | with_reducible exact fr_Op_addrCmp .. | with_reducible exact fr_Op_addrSub .. | with_reducible exact fr_stringOp .. | with_reducible exact fr_floatCmp .. | with_reducible exact fr_floatArith .. | with_reducible exact fr_intCmp .. | with_reducible exact fr_shift .. | with_reducible exact fr_intBits .. | with_reducible exact fr_intDiv .. | with_reducible exact fr_intArith .. | with_reducible exact fr_underlying .. | with_reducible exact fr_behindNumber .. | with_reducible exact fr_unsupported .. | with_reducible exact fr_stuck .. | with_reducible exact heq .. | with_reducible exact FR.pure _ | with_reducible exact FR.halt _ | with_reducible assumption | with_reducible refine fr_shapeE (fun _ _ _ => rfl) (fun _ => ?_) | with_reducible apply FR.map | with_reducible apply FR.bind | with_reducible apply FR.array | with_reducible apply FR.range | with_reducible apply FR.arrayMapM | with_reducible apply FR.list | with_reducible apply FR.listM | with_reducible refine FR.ite ?_ ?_ | split | with_reducible intro _ | (dsimp only)
/-- Types of numbers. -/
def numD : TypeDesc → Bool
  | .int _ | .float _ | .complex _ => true
  | _ => false
theorem fr_convert {s d : TypeId} {a b : TypeDesc} (hs : P.underlying s = some a) (hd : P.underlying d = some b) (ha : numD a = true) (hb : numD b = true) (x : Value) : FR P (convert s d x) := by
  unfold convert
  refine fr_underlying_bind hs (fr_underlying_bind hd ?_)
  cases a <;> first | exact absurd ha Bool.false_ne_true | skip
  all_goals cases b <;> first | exact absurd hb Bool.false_ne_true | skip
  all_goals repeat first | contradiction | with_reducible exact fr_Conv_complexToComplex .. | with_reducible exact fr_floatToFloat .. | with_reducible exact fr_floatToInt .. | with_reducible exact fr_intToFloat .. | with_reducible exact fr_intToInt .. | with_reducible exact fr_unsupported .. | with_reducible exact FR.pure _ | with_reducible exact FR.halt _ | with_reducible assumption | with_reducible refine fr_shapeE (fun _ _ _ => rfl) (fun _ => ?_) | with_reducible apply FR.map | with_reducible apply FR.bind | with_reducible apply FR.array | with_reducible apply FR.range | with_reducible apply FR.arrayMapM | with_reducible apply FR.list | with_reducible apply FR.listM | with_reducible refine FR.ite ?_ ?_ | split | with_reducible intro _ | (dsimp only)
theorem fr_results (fn : Func) (tmps : Array Value) : FR P (results fn tmps) := by
  unfold results
  repeat first | with_reducible exact fr_asAddr .. | with_reducible exact fr_loadVar .. | with_reducible exact FR.pure _ | with_reducible exact FR.halt _ | with_reducible assumption | with_reducible refine fr_shapeE (fun _ _ _ => rfl) (fun _ => ?_) | with_reducible apply FR.map | with_reducible apply FR.bind | with_reducible apply FR.array | with_reducible apply FR.range | with_reducible apply FR.arrayMapM | with_reducible apply FR.list | with_reducible apply FR.listM | with_reducible refine FR.ite ?_ ?_ | split | with_reducible intro _ | (dsimp only)
end
end Go.Proofs.Ytgeflnjjppgooaa

namespace Go.Proofs.Ytgeflnjjppgooaa
open Go
section
variable {P : Program}
theorem fr_append (t : Array TypeId) (u : TypeId) (x : Array Value) : FR P (Builtin.append_ t u x) := by
  unfold Builtin.append_
  split
  · refine FR.bind (fr_underlying _) fun d => ?_
    split
    · split
      · refine FR.bind (fr_sizeOf _) fun size => ?_
        extract_lets jpU jp
        have hjp : ∀ z, FR P (jp z) := by
          intro z
          simp (config := {zeta := false}) only [jp]
          extract_lets jn
          have hjn : ∀ n, FR P (jn n) := by
            intro n
            simp (config := {zeta := false}) only [jn]
            extract_lets app need j0 j2 j1
            have happ : FR P app := by
              simp only [app]
              refine FR.ite (fr_firstCells _ _ _) (FR.ite (FR.pure _) ?_)
              exact FR.bind (fr_zeroValue _) fun _ => FR.pure _
            refine FR.ite (FR.bind happ fun new => ?_) (FR.bind (fr_typeInfo _) fun i => ?_)
            · split
              · exact FR.bind (fr_storeCells _ _ _) fun _ => FR.pure _
              · exact FR.pure _
            · have h1 : ∀ r, FR P (j1 r) := by
                intro r
                simp (config := {zeta := false}) only [j1]
                refine FR.bind (fr_typeInfo _) fun i => ?_
                have h2 : ∀ r, FR P (j2 r) := by
                  intro r
                  simp (config := {zeta := false}) only [j2]
                  refine FR.bind (fr_choose _) fun _ => FR.bind (fr_typeInfo _) fun _ => FR.bind (fr_askRoom _) fun _ => FR.bind (fr_firstCells _ _ _) fun _ => FR.bind happ fun _ => FR.bind (fr_zeroValue _) fun _ => ?_
                  exact FR.bind (fr_newRow _ _) fun _ => FR.pure _
                refine FR.ite (FR.bind ?_ h2) (h2 ())
                refine FR.ite (fr_runtimePanic _) (fr_mayShare_bind fun s u b v' h => ?_)
                revert h
                simp only [jpU, unsupported, mark]
                split <;> simp [Sem.run]
              exact FR.ite (FR.bind (fr_runtimePanic _) h1) (h1 ())
          refine FR.ite (FR.bind (fr_asInt _) fun q => ?_) (FR.bind (fr_lenOf _) hjn)
          extract_lets l j2 j1
          have h1 : ∀ r, FR P (j1 r) := by
            intro r
            simp (config := {zeta := false}) only [j1]
            refine FR.bind (fr_typeInfo _) fun i => ?_
            have h2 : ∀ r, FR P (j2 r) := by
              intro r
              simp (config := {zeta := false}) only [j2]
              exact FR.bind (FR.pure _) hjn
            exact FR.ite (FR.bind (fr_choose _) fun _ => FR.bind (fr_runtimePanic _) h2) (h2 ())
          exact FR.ite (FR.bind (fr_runtimePanic _) h1) (h1 ())
        split
        · exact FR.bind (fr_underlying _) fun _ => FR.bind (FR.pure _) hjp
        · exact FR.bind (FR.pure _) hjp
      · exact FR.halt _
    · exact FR.halt _
  · exact FR.halt _
theorem find_sqrt (fn : Func) (h : fn.name = "math.sqrt") (h' : fn.origin = "") : Extern.findNext fn = none ∧ Extern.find fn = some Extern.MathSqrt.sqrt := by
  cases fn
  subst h; subst h'
  exact ⟨rfl, rfl⟩
theorem find_bits (fn : Func) (h : fn.name = "math.Float32bits") (h' : fn.origin = "") : Extern.findNext fn = none ∧ Extern.find fn = some Extern.MathFloatBits.float32bits := by
  cases fn
  subst h; subst h'
  exact ⟨rfl, rfl⟩
theorem fr_extern (f : FuncId) : FR P (mark (.extern f)) := fun v w h x v' hr => by
  unfold mark at hr ⊢
  simp only [Sem.run, Result.ok.injEq] at hr ⊢
  obtain ⟨_, rfl⟩ := hr
  refine ⟨w, ⟨trivial, rfl⟩, .refl h, fun es e he => ?_⟩
  simp only [Sem.events, Sem.runT] at he
  rcases Array.mem_push.1 he with he | rfl
  · exact .inl he
  · exact .inr (.inr ⟨_, rfl⟩)
theorem fr_sqrt (a : Array Value) : FR P (Extern.MathSqrt.sqrt a) := by
  obtain ⟨l⟩ := a
  rcases l with _ | ⟨x, _ | ⟨y, l⟩⟩
  · exact FR.halt _
  · cases x <;> first | exact FR.halt _ | skip
    rename_i k b
    cases k
    · exact FR.halt _
    · show FR P (match FloatKind.f64.format.sqrt b with | some r => Pure.pure (Value.float .f64 r) | none => choose (.nanBits .f64 b b) >>= fun z => Pure.pure (Value.float .f64 z) : Sem Value)
      split
      · exact FR.pure _
      · exact FR.bind (fr_choose _) fun _ => FR.pure _
  · exact FR.halt _
theorem fr_bits (a : Array Value) : FR P (Extern.MathFloatBits.float32bits a) := by
  obtain ⟨l⟩ := a
  rcases l with _ | ⟨x, _ | ⟨y, l⟩⟩
  · exact FR.halt _
  · cases x <;> first | exact FR.halt _ | skip
    rename_i k b
    cases k
    · exact FR.pure _
    · exact FR.halt _
  · exact FR.halt _
/-- Functions that a call may name: those with a text; two of the library's. -/
def frF (fn : Func) : Bool := fn.body.isSome || (fn.origin == "" && (fn.name == "math.sqrt" || fn.name == "math.Float32bits"))
theorem fr_callFunc {f : FuncId} {fn : Func} (hf : P.funcs[f]? = some fn) (h : frF fn = true) (args : Array Value) : FR P (callFunc f args) := by
  unfold callFunc
  refine fr_known (a := P) (fun u => rfl) ?_ fr_program
  rw [hf]
  dsimp only
  split
  · exact FR.pure _
  · split
    · rename_i hb
      refine FR.bind (fr_extern f) fun _ => ?_
      simp only [frF, Bool.or_eq_true, Bool.and_eq_true, beq_iff_eq] at h
      rcases h with h | ⟨ho, h | h⟩
      · cases hbb : fn.body <;> rw [hbb] at h hb <;> simp at h hb
      · obtain ⟨h1, h2⟩ := find_sqrt fn h ho
        rw [h1, h2]
        exact FR.bind (fr_sqrt _) fun _ => FR.pure _
      · obtain ⟨h1, h2⟩ := find_bits fn h ho
        rw [h1, h2]
        exact FR.bind (fr_bits _) fun _ => FR.pure _
    · exact FR.pure _
/-- The operations of which it is known. -/
def frB (P : Program) : Op → Bool
  | .move _ | .assign _ | .pick .. | .alloc _ | .box .. | .build .. | .buildSlice .. | .load .. | .store .. | .unOp .. | .makeFunc .. | .makeSlice .. | .fieldAddr .. | .indexAddr .. | .extract .. | .nilCheck _ => true
  | .binOp _ t .. => (P.underlying t).any plainD
  | .convert s d _ => (P.underlying s).any numD && (P.underlying d).any numD
  | .call c => match c.callee with
    | .builtin .append | .builtin .len | .builtin .min => true
    | .value (.func f) => (P.funcs[f]?).any frF
    | _ => false
  | _ => false
/-- What operation o does in a view it does in the world. -/
def FRop (P : Program) (o : Oper) : Prop := ∀ (ρ : Operand → Value), (∀ f, ρ (.func f) = .func (.func f) #[] #[]) → FR P (execOp ρ o)
theorem FRop.of {o : Oper} (h : ∀ ρ, FR P (execOp ρ o)) : FRop P o := fun ρ _ => h ρ
theorem fr_v {s : Sem Value} (h : FR P s) : FR P (do pure (Next.value (← s)) : Sem Next) := FR.bind h fun _ => FR.pure _
theorem any_some {α : Type} {x : Option α} {p : α → Bool} (h : x.any p = true) : ∃ a, x = some a ∧ p a = true := by
  cases x with
  | none => exact absurd h Bool.false_ne_true
  | some a => exact ⟨a, rfl, h⟩
theorem fr_nilCheck (x : Value) : FR P (match x with
    | .pointer none | .nilIface | .nilFunc => runtimePanic .nilDeref
    | .func (.method name) first captured =>
      match (first[0]? : Option Value) with
      | some .nilIface => runtimePanic .nilDeref
      | some (.iface t w) => do
        if (← nilAhead ((← program).types.size + Made.depth) t w name) != some false then
          unsupported (.noEntry "op/nilCheck.the method's receiver behind this interface value is a nil pointer, or cannot be seen to be none, and the arguments act or may panic (ledger 612)")
        pure (.value (.func (.method name) first captured))
      | _ => pure (.value (.func (.method name) first captured))
    | x => pure (.value x) : Sem Next) := by
  repeat first | with_reducible exact FR.pure _ | with_reducible exact fr_runtimePanic _ | with_reducible exact fr_unsupported _ | with_reducible exact fr_program | with_reducible exact fr_nilAhead .. | with_reducible apply FR.bind | with_reducible refine FR.ite ?_ ?_ | split | with_reducible intro _ | (dsimp only)
theorem frop_of {o : Oper} (h : frB P o.op = true) : FRop P o := by
  cases ho : o.op <;> rw [ho] at h <;> simp only [frB] at h <;> try cases h
  case move x => exact .of fun ρ => by simp only [execOp, ho]; exact FR.pure _
  case assign x => exact .of fun ρ => by simp only [execOp, ho]; exact FR.pure _
  case pick c a b => exact .of fun ρ => by simp only [execOp, ho]; exact FR.bind (fr_asBool _) fun _ => FR.pure _
  case alloc e => exact .of fun ρ => by simp only [execOp, ho]; exact fr_v (fr_alloc _ _ _)
  case box e x => exact .of fun ρ => by simp only [execOp, ho]; exact fr_v (fr_box _ _)
  case build t p => exact .of fun ρ => by simp only [execOp, ho]; exact fr_v (fr_Instr_build _ _)
  case buildSlice t n p => exact .of fun ρ => by simp only [execOp, ho]; exact fr_v (fr_Instr_buildSlice _ _ _)
  case load t a => exact .of fun ρ => by simp only [execOp, ho]; exact fr_v (fr_loadAt _ _)
  case store t a x => exact .of fun ρ => by simp only [execOp, ho]; exact FR.bind (fr_storeAt _ _ _) fun _ => FR.pure _
  case nilCheck x => exact .of fun ρ => by simp only [execOp, ho]; exact fr_nilCheck _
  case binOp op t x y u =>
    obtain ⟨d, h1, h2⟩ := any_some h
    exact .of fun ρ => by simp only [execOp, ho]; exact fr_v (FR.bind (fr_eqGuard _ _ _ _ _ _) fun _ => fr_binOp h1 h2 _ _ _)
  case unOp op t x => exact .of fun ρ => by simp only [execOp, ho]; exact fr_v (fr_unary _ _)
  case convert s d x =>
    rw [Bool.and_eq_true] at h
    obtain ⟨a, h1, h2⟩ := any_some h.1
    obtain ⟨b, h3, h4⟩ := any_some h.2
    exact .of fun ρ => by simp only [execOp, ho]; exact fr_v (fr_convert h1 h3 h2 h4 _)
  case makeFunc f a c => exact .of fun ρ => by simp only [execOp, ho]; exact fr_v (fr_makeFunc _ _ _)
  case makeSlice t l c => exact .of fun ρ => by simp only [execOp, ho]; exact fr_v (fr_makeSlice _ _ _)
  case fieldAddr s x f => exact .of fun ρ => by simp only [execOp, ho]; exact fr_v (fr_Instr_fieldAt _ _ _)
  case indexAddr t x i => exact .of fun ρ => by simp only [execOp, ho]; exact fr_v (fr_indexAt _ _ _)
  case extract t i => exact .of fun ρ => by simp only [execOp, ho]; exact fr_v (fr_extract _ _)
  case call c =>
    obtain ⟨callee, args, ats⟩ := c
    cases callee with
    | builtin b =>
      cases b <;> simp only at h <;> try cases h
      all_goals refine .of fun ρ => ?_
      all_goals simp only [execOp, ho, resolve]
      · show FR P (builtin .append ats o.type (args.map fun | .const _ => true | _ => false) (args.map ρ))
        simp only [builtin]; exact fr_v (fr_append _ _ _)
      · show FR P (builtin .len ats o.type (args.map fun | .const _ => true | _ => false) (args.map ρ))
        simp only [builtin]; exact fr_v (fr_len _ _ _)
      · show FR P (builtin .min ats o.type (args.map fun | .const _ => true | _ => false) (args.map ρ))
        simp only [builtin]; exact fr_v (fr_min _ _ _)
    | invoke r n => cases h
    | value x =>
      cases x <;> simp only at h <;> try cases h
      rename_i f
      intro ρ hρ
      obtain ⟨fn, hf, hb⟩ := any_some h
      simp only [execOp, ho, resolve, hρ, Deferred.ofValue]
      show FR P (callFunc f _)
      exact fr_callFunc hf hb _
end
end Go.Proofs.Ytgeflnjjppgooaa
