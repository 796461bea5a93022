/- Own texts of this claim, merged: Mc, Mk, Ml, Mn, Mo, Mp, Mq, Mr, Ms, Mu, Mv, Mw, Ob, Oc, Od. -/

import Derived.Test.YtfkblhlkeglilaaKFnLines5
namespace Go.Proofs.Ytfkblhlkeglilaa
open R3
/-- A segment: what is known of it at the middle, and what it is. -/
structure Sg where
  c : R3
  E : R3
  m : Rat
  w : Rat
  p : Rat
  cu : Rat
  hh : Rat
  ka : Rat
  q : Rat
  c' : R3
def su (f : Sg → Rat) : List Sg → Rat
  | [] => 0
  | s :: l => f s + su f l
def sv (f : Sg → R3) : List Sg → R3
  | [] => R3.zero
  | s :: l => (f s).add (sv f l)
structure SgOk (U d : R3) (L : Rat) (s : Sg) : Prop where
  w0 : 0 ≤ s.w
  q0 : 0 ≤ s.q
  hq : Rg (s.q - s.m) s.w
  hE : nb s.E L
  hc : nb (s.c'.sub (s.c.sub (d.cr s.E))) s.ka
  hp : (pj U s.c).dot (pj U s.c) ≤ s.p
  hcu : Rg (s.c.dot U) s.cu
  h0 : 0 < s.hh
section
variable {U d : R3} {L : Rat}
def D1 (l : List Sg) : R3 := sv (fun s => s.c.sm (s.q - s.m)) l
def D3 (d : R3) (l : List Sg) : R3 := sv (fun s => (s.c'.sub (s.c.sub (d.cr s.E))).sm s.q) l
theorem sv_split (d : R3) : ∀ l : List Sg, sv (fun s => s.c'.sm s.q) l = ((sv (fun s => s.c.sm s.m) l).add (D1 l)).add (((d.cr (sv (fun s => s.E.sm s.q) l)).sm (-1)).add (D3 d l))
  | [] => by apply R3.ext' <;> (simp only [sv, D1, D3]; unfold R3.add R3.cr R3.sm R3.zero; grind)
  | s :: l => by
    have ih := sv_split d l
    have e1 : D1 (s :: l) = (s.c.sm (s.q - s.m)).add (D1 l) := rfl
    have e3 : D3 d (s :: l) = ((s.c'.sub (s.c.sub (d.cr s.E))).sm s.q).add (D3 d l) := rfl
    simp only [sv]
    rw [e1, e3, ih]
    generalize sv (fun s => s.c.sm s.m) l = a
    generalize D1 l = b
    generalize sv (fun s => s.E.sm s.q) l = f
    generalize D3 d l = g
    apply R3.ext' <;> (unfold R3.add R3.cr R3.sm R3.sub; grind)
theorem d1_pj : ∀ l : List Sg, (∀ s ∈ l, SgOk U d L s) → 0 ≤ su (fun s => s.w * s.hh) l ∧ 0 ≤ su (fun s => s.w / s.hh * s.p) l ∧ (pj U (D1 l)).dot (pj U (D1 l)) ≤ su (fun s => s.w * s.hh) l * su (fun s => s.w / s.hh * s.p) l
  | [], _ => by
    refine ⟨Rat.le_refl, Rat.le_refl, ?_⟩
    show (pj U R3.zero).dot (pj U R3.zero) ≤ 0 * 0
    unfold pj R3.dot R3.sub R3.sm R3.zero; grind
  | s :: l, h => by
    obtain ⟨i1, i2, i3⟩ := d1_pj l fun s hs => h s (List.mem_cons_of_mem _ hs)
    have o := h s List.mem_cons_self
    have hw := o.w0
    have h0 := o.h0
    obtain ⟨r, hr⟩ : ∃ r, r = s.w / s.hh := ⟨_, rfl⟩
    have hrw : r * s.hh = s.w := by rw [hr, Rat.div_mul_cancel]; intro h; rw [h] at h0; exact absurd h0 (by decide)
    have r0 : 0 ≤ r := Rat.le_of_mul_le_mul_right (c := s.hh) (by rw [Rat.zero_mul, hrw]; exact hw) h0
    have p0 : 0 ≤ s.p := Rat.le_trans (dot_nn _) o.hp
    have wh := Rat.mul_nonneg hw (Rat.le_of_lt h0)
    have rp := Rat.mul_nonneg r0 p0
    have e1 : D1 (s :: l) = (s.c.sm (s.q - s.m)).add (D1 l) := rfl
    simp only [su]
    rw [← hr]
    refine ⟨by grind, by grind, ?_⟩
    have e2 : pj U (D1 (s :: l)) = (pj U (D1 l)).add ((pj U s.c).sm (s.q - s.m)) := by
      rw [e1, pj_add, pj_sm]
      apply R3.ext' <;> (unfold R3.add; grind)
    rw [e2]
    have k := wcauchy (s := pj U (D1 l)) (v := pj U s.c) (ω := s.q - s.m) (a := s.w * s.hh) (β := r) i1 i2 i3 wh r0 (by
      have := (rmul o.hq o.hq).2
      have e : s.w * s.hh * r = s.w * s.w := by rw [Rat.mul_assoc, Rat.mul_comm s.hh, hrw]
      rw [e]; exact this) o.hp
    have e9 : ∀ a b c d : Rat, (a + b) * (c + d) = (b + a) * (d + c) := fun a b c d => by grind
    rw [e9] at k
    exact k
theorem d1_U : ∀ l : List Sg, (∀ s ∈ l, SgOk U d L s) → Rg ((D1 l).dot U) (su (fun s => s.w * s.cu) l)
  | [], _ => by
    show Rg (R3.zero.dot U) 0
    have e : R3.zero.dot U = 0 := by unfold R3.dot R3.zero; grind
    rw [e]; exact ⟨by decide +kernel, by decide +kernel⟩
  | s :: l, h => by
    have i := d1_U l fun s hs => h s (List.mem_cons_of_mem _ hs)
    have o := h s List.mem_cons_self
    have e : (D1 (s :: l)).dot U = (s.q - s.m) * s.c.dot U + (D1 l).dot U := by
      show ((s.c.sm (s.q - s.m)).add (D1 l)).dot U = _
      unfold R3.dot R3.add R3.sm; grind
    rw [e]
    exact (rmul o.hq o.hcu).add i
theorem qE_nb : ∀ l : List Sg, (∀ s ∈ l, SgOk U d L s) → nb (sv (fun s => s.E.sm (s.q - s.m)) l) (L * su (fun s => s.w) l)
  | [], _ => by
    show nb R3.zero (L * 0)
    rw [Rat.mul_zero]; exact nb_zero Rat.le_refl
  | s :: l, h => by
    have i := qE_nb l fun s hs => h s (List.mem_cons_of_mem _ hs)
    have o := h s List.mem_cons_self
    have k := (o.hE.sm o.hq).add i
    refine k.mono ?_
    simp only [su]; grind
theorem qE_split : ∀ l : List Sg, sv (fun s => s.E.sm s.q) l = (sv (fun s => s.E.sm s.m) l).add (sv (fun s => s.E.sm (s.q - s.m)) l)
  | [] => by apply R3.ext' <;> (simp only [sv]; unfold R3.add R3.zero; grind)
  | s :: l => by
    simp only [sv]
    rw [qE_split l]
    apply R3.ext' <;> (unfold R3.add R3.sm; grind)
theorem d3_nb : ∀ l : List Sg, (∀ s ∈ l, SgOk U d L s) → nb (D3 d l) (su (fun s => (s.m + s.w) * s.ka) l)
  | [], _ => nb_zero Rat.le_refl
  | s :: l, h => by
    have i := d3_nb l fun s hs => h s (List.mem_cons_of_mem _ hs)
    have o := h s List.mem_cons_self
    have hq := o.hq
    have q0 := o.q0
    exact (o.hc.sm (k := s.q) (K := s.m + s.w) ⟨by have := hq.2; grind, by have := hq.2; grind⟩).add i
/-- What is computed of the middle. -/
structure Mid (l : List Sg) (U : R3) (L e er g n0 r0 S B : Rat) : Prop where
  hU : Rg (U.dot U - 1) (g / 16)
  hg : g ≤ 1 / 1000
  hS : su (fun s => s.w * s.hh) l * su (fun s => s.w / s.hh * s.p) l ≤ S * S
  S0 : 0 ≤ S
  hB : nb (sv (fun s => s.E.sm s.m) l) B
  h0 : nb ((sv (fun s => s.c.sm s.m) l).sub (U.sm n0)) r0
  n0 : 0 ≤ n0
def TE (l : List Sg) (L e er B : Rat) : Rat := e * (B + L * su (fun s => s.w) l) + su (fun s => (s.m + s.w) * s.ka) l + er
theorem ball {l : List Sg} {F err : R3} {e er g n0 r0 S B : Rat} (ok : ∀ s ∈ l, SgOk U d L s) (hd : nb d e) (hF : F = (sv (fun s => s.c'.sm s.q) l).add err) (her : nb err er) (M : Mid l U L e er g n0 r0 S B) :
    nb (pj U F) (n0 * (g / 16) * (1001 / 1000) + r0 + S + TE l L e er B) ∧ n0 * (1 - g / 16) - 1001 / 1000 * (r0 + TE l L e er B) - su (fun s => s.w * s.cu) l ≤ F.dot U := by
  have g0 : 0 ≤ g := by have := M.hU.nn; grind
  have hg := M.hg
  obtain ⟨u1, u2⟩ := M.hU
  have U2 : U.dot U ≤ 2 := by grind
  have hUn : nb U (1001 / 1000) := ⟨by decide +kernel, by grind⟩
  obtain ⟨a1, a2, a3⟩ := d1_pj l ok
  have hb := d1_U l ok
  have hE : nb (sv (fun s => s.E.sm s.q) l) (B + L * su (fun s => s.w) l) := by rw [qE_split]; exact M.hB.add (qE_nb l ok)
  have h2 : nb ((d.cr (sv (fun s => s.E.sm s.q) l)).sm (-1)) (e * (B + L * su (fun s => s.w) l)) := (hd.cr hE).neg
  have h3 := d3_nb l ok
  -- what is small
  obtain ⟨X, hX⟩ : ∃ X, X = ((((d.cr (sv (fun s => s.E.sm s.q) l)).sm (-1)).add (D3 d l)).add err) := ⟨_, rfl⟩
  have hXn : nb X (TE l L e er B) := by rw [hX]; exact (h2.add h3).add her
  have hF2 : F = (((sv (fun s => s.c.sm s.m) l).sub (U.sm n0)).add ((D1 l).add X)).add (U.sm n0) := by
    rw [hF, sv_split d, hX]
    generalize sv (fun s => s.c.sm s.m) l = a
    generalize D1 l = b
    generalize ((d.cr (sv (fun s => s.E.sm s.q) l)).sm (-1)) = c
    generalize D3 d l = f
    apply R3.ext' <;> (unfold R3.add R3.sub R3.sm; grind)
  have hpU : nb (pj U (U.sm n0)) (n0 * (g / 16) * (1001 / 1000)) := by
    have e1 : pj U (U.sm n0) = U.sm (n0 * (1 - U.dot U)) := by apply R3.ext' <;> (unfold pj R3.sub R3.sm R3.dot; grind)
    rw [e1]
    refine hUn.sm ?_
    have := rmul (show Rg n0 n0 from ⟨by have := M.n0; grind, Rat.le_refl⟩) (show Rg (1 - U.dot U) (g / 16) from ⟨by grind, by grind⟩)
    exact this
  have hd1 : nb (pj U (D1 l)) S := ⟨M.S0, Rat.le_trans a3 M.hS⟩
  constructor
  · rw [hF2, pj_add, pj_add, pj_add]
    refine (((pj_nb U2 M.h0).add (hd1.add (pj_nb U2 hXn))).add hpU).mono ?_
    grind
  · have e1 : F.dot U = ((sv (fun s => s.c.sm s.m) l).sub (U.sm n0)).dot U + ((D1 l).dot U + X.dot U) + n0 * U.dot U := by
      rw [hF2]; unfold R3.dot R3.add R3.sm; grind
    have k1 := (dot_le M.h0 hUn).1
    have k2 := (dot_le hXn hUn).1
    have k3 := hb.1
    have k4 := Rat.mul_le_mul_of_nonneg_left (show 1 - g / 16 ≤ U.dot U by grind) M.n0
    rw [e1]; grind
end
end Go.Proofs.Ytfkblhlkeglilaa

namespace Go.Proofs.Ytfkblhlkeglilaa
open Go.RowKit R3
set_option maxRecDepth 20000
attribute [local irreducible] D9 D7 UU WW W9
/-- Three numbers that are rounded. -/
theorem nb3 {a c : R3} {A : Rat} (hx : Rg (c.x - a.x) (u24 * ab a.x + tn)) (hy : Rg (c.y - a.y) (u24 * ab a.y + tn)) (hz : Rg (c.z - a.z) (u24 * ab a.z + tn)) (h : nb a A) : nb (c.sub a) (u24 * A + 3 * tn) := by
  obtain ⟨k1, k2, k3⟩ := nb_x h
  have k1 := ab_le k1
  have k2 := ab_le k2
  have k3 := ab_le k3
  have hu0 := u24_0
  have ht0 := tn_0
  have A0 := h.nn
  have uA := Rat.mul_nonneg hu0 A0
  refine ⟨by grind, ?_⟩
  have s1 := (rmul hx hx).2
  have s2 := (rmul hy hy).2
  have s3 := (rmul hz hz).2
  have hsq := h.2
  have e : (c.sub a).dot (c.sub a) = (c.x - a.x) * (c.x - a.x) + (c.y - a.y) * (c.y - a.y) + (c.z - a.z) * (c.z - a.z) := rfl
  rw [e]
  have e0 : a.dot a = ab a.x * ab a.x + ab a.y * ab a.y + ab a.z * ab a.z := by rw [ab_sq, ab_sq, ab_sq]; rfl
  rw [e0] at hsq
  have q1 := ab_nn a.x
  have q2 := ab_nn a.y
  have q3 := ab_nn a.z
  clear hx hy hz h e e0
  generalize (c.x - a.x) * (c.x - a.x) = X at *
  generalize (c.y - a.y) * (c.y - a.y) = Y at *
  generalize (c.z - a.z) * (c.z - a.z) = Z at *
  generalize ab a.x = p at *
  generalize ab a.y = q at *
  generalize ab a.z = r at *
  have uu0 := Rat.mul_nonneg hu0 hu0
  have ut0 := Rat.mul_nonneg hu0 ht0
  have m1 := Rat.mul_le_mul_of_nonneg_left hsq uu0
  have m2 := Rat.mul_le_mul_of_nonneg_left k1 ut0
  have m3 := Rat.mul_le_mul_of_nonneg_left k2 ut0
  have m4 := Rat.mul_le_mul_of_nonneg_left k3 ut0
  have tt := Rat.mul_nonneg ht0 ht0
  generalize u24 = u at *
  generalize tn = t at *
  grind
section
variable {v w : V3} {a b c : R3} {A B E F : Rat}
theorem add3_rel (h1 : qv3 v a.x a.y a.z) (h2 : qv3 w b.x b.y b.z) (h : nb (a.add b) A) (hA : A ≤ 1000000000000000000) : ∃ c : R3, qv3 (add3 v w) c.x c.y c.z ∧ nb (c.sub (a.add b)) (u24 * A + 3 * tn) := by
  obtain ⟨k1, k2, k3⟩ := nb_x h
  obtain ⟨x, x1, x2⟩ := rl_add h1.x h2.x (k1.mono hA)
  obtain ⟨y, y1, y2⟩ := rl_add h1.y h2.y (k2.mono hA)
  obtain ⟨z, z1, z2⟩ := rl_add h1.z h2.z (k3.mono hA)
  exact ⟨⟨x, y, z⟩, ⟨x1, y1, z1⟩, nb3 x2 y2 z2 h⟩
theorem scale3_rel {q : Nat} {ζ : Rat} (h1 : qv3 v a.x a.y a.z) (hq : qv q ζ) (h : nb (a.sm ζ) A) (hA : A ≤ 1000000000000000000) : ∃ c : R3, qv3 (scale3 v q) c.x c.y c.z ∧ nb (c.sub (a.sm ζ)) (u24 * A + 3 * tn) := by
  obtain ⟨k1, k2, k3⟩ := nb_x h
  have key : ∀ {x : Nat} {p : Rat}, qv x p → Rg (ζ * p) A → ∃ z, qv (fop .mul .f32 x q) z ∧ Rg (z - ζ * p) (u24 * ab (ζ * p) + tn) := by
    intro x p hx hp
    have e : p * ζ = ζ * p := by grind
    obtain ⟨z, z1, z2⟩ := rl_mul hx hq (by rw [e]; exact hp.mono hA)
    rw [e] at z2
    exact ⟨z, z1, z2⟩
  obtain ⟨x, x1, x2⟩ := key h1.x k1
  obtain ⟨y, y1, y2⟩ := key h1.y k2
  obtain ⟨z, z1, z2⟩ := key h1.z k3
  exact ⟨⟨x, y, z⟩, ⟨x1, y1, z1⟩, nb3 (a := a.sm ζ) x2 y2 z2 h⟩
theorem nb.tri (h : nb (a.sub b) E) (g : nb (b.sub c) F) : nb (a.sub c) (E + F) := by
  have e : a.sub c = (a.sub b).add (b.sub c) := by apply R3.ext' <;> (unfold R3.add R3.sub; grind)
  rw [e]; exact h.add g
theorem nb.from (h : nb (a.sub b) E) (g : nb b F) : nb a (E + F) := by
  have e : a = (a.sub b).add b := by apply R3.ext' <;> (unfold R3.add R3.sub; grind)
  rw [e]; exact h.add g
end
theorem qv_one2 : qv 1065353216 1 := by
  refine ⟨16777216 * UU, ⟨by decide +kernel, by decide +kernel, by decide +kernel⟩, ?_⟩
  unfold WW
  rw [Rat.intCast_mul]
  have e : ((16777216 : Int) : Rat) = 16777216 := rfl
  rw [e]; grind
def SumV (T : Nat → R3) : Nat → R3
  | 0 => R3.zero
  | n + 1 => (SumV T n).add (T n)
def SumR (b : Nat → Rat) : Nat → Rat
  | 0 => 0
  | n + 1 => SumR b n + b n
theorem SumV_nb {T : Nat → R3} {b : Nat → Rat} : ∀ {n : Nat}, (∀ k, k < n → nb (T k) (b k)) → nb (SumV T n) (SumR b n)
  | 0, _ => nb_zero Rat.le_refl
  | n + 1, h => (SumV_nb fun k hk => h k (by omega)).add (h n (by omega))
theorem sum_rel {w : Wr} {p : V3} {T : Nat → R3} {b : Nat → Rat} : ∀ n : Nat, n ≤ 12 → (∀ k, k < n → ∃ f : R3, qv3 (segF (segA w k) (segB w k) p) f.x f.y f.z ∧ nb (f.sub (T k)) (u24 * b k + 3 * tn) ∧ nb (T k) (b k)) → SumR b n ≤ 1000000000000000 →
    ∃ s : R3, qv3 (sumW w p n) s.x s.y s.z ∧ nb (s.sub (SumV T n)) (((n : Rat) + 1) * (1001 / 1000) * u24 * SumR b n + 10 * (n : Rat) * tn)
  | 0, _, _, _ => by
    refine ⟨R3.zero, ⟨qv_zero, qv_zero, qv_zero⟩, ?_⟩
    show nb (R3.zero.sub R3.zero) (((0 : Rat) + 1) * (1001 / 1000) * u24 * 0 + 10 * (0 : Rat) * tn)
    have e : R3.zero.sub R3.zero = R3.zero := by apply R3.ext' <;> (unfold R3.sub R3.zero; grind)
    rw [e]
    exact nb_zero (by grind)
  | n + 1, hn, h, hB => by
    obtain ⟨f, f1, f2, f3⟩ := h n (by omega)
    have hT : ∀ k, k < n → nb (T k) (b k) := fun k hk => by obtain ⟨_, _, _, g⟩ := h k (by omega); exact g
    have hS := SumV_nb hT
    have eB : SumR b (n + 1) = SumR b n + b n := rfl
    have b0 := f3.nn
    have B0 := hS.nn
    obtain ⟨s, s1, s2⟩ := sum_rel n (by omega) (fun k hk => h k (by omega)) (by rw [eB] at hB; grind)
    have hn9 : (n : Rat) ≤ 11 := Rat.natCast_le_natCast.2 (show n ≤ 11 by omega)
    have hn0 : (0 : Rat) ≤ (n : Rat) := Rat.natCast_nonneg
    have nB := Rat.mul_le_mul_of_nonneg_right hn9 B0
    have nB0 := Rat.mul_nonneg hn0 B0
    have nb0 := Rat.mul_nonneg hn0 b0
    have hu : u24 = 1 / 16777216 := rfl
    have ht : tn ≤ 1 / 1000000000000 := by decide +kernel
    have ht0 := tn_0
    have nt := Rat.mul_le_mul_of_nonneg_right hn9 ht0
    -- the exact sum of what is there
    have hE : ∀ {x y z t : R3}, (x.add y).sub (z.add t) = (x.sub z).add (y.sub t) := by
      intro x y z t; apply R3.ext' <;> (unfold R3.add R3.sub; grind)
    have k1 : nb ((s.add f).sub (SumV T (n + 1))) (((n : Rat) + 1) * (1001 / 1000) * u24 * SumR b n + 10 * (n : Rat) * tn + (u24 * b n + 3 * tn)) := by
      show nb ((s.add f).sub ((SumV T n).add (T n))) _
      rw [hE]; exact s2.add f2
    have k2 := k1.from (show nb (SumV T (n + 1)) (SumR b (n + 1)) from hS.add f3)
    rw [eB] at k2 hB
    obtain ⟨c, c1, c2⟩ := add3_rel s1 f1 k2 (by rw [hu]; grind)
    refine ⟨c, c1, ?_⟩
    refine (c2.tri k1).mono ?_
    rw [eB]
    have e1 : ((n + 1 : Nat) : Rat) = (n : Rat) + 1 := by rw [Rat.natCast_add]; rfl
    rw [e1, hu]
    grind
/-- The field of a ring with a current of one. -/
theorem ring_rel {L : List V3} {p : V3} {T : Nat → R3} {b : Nat → Rat} (hn : L.length = 12) (h : ∀ k, k < 12 → ∃ f : R3, qv3 (segF (segA (L, true, 1065353216) k) (segB (L, true, 1065353216) k) p) f.x f.y f.z ∧ nb (f.sub (T k)) (u24 * b k + 3 * tn) ∧ nb (T k) (b k)) (hB : SumR b 12 ≤ 1000000000000000) :
    ∃ F : R3, qv3 (fieldI [(L, true, 1065353216)] p) F.x F.y F.z ∧ nb (F.sub (SumV T 12)) (1502 / 100 * u24 * SumR b 12 + 1000 * tn) := by
  have e : fieldI [(L, true, 1065353216)] p = add3 z3 (scale3 (sumW (L, true, 1065353216) p 12) 1065353216) := by
    show add3 z3 (scale3 (sumW (L, true, 1065353216) p (segN (L, true, 1065353216))) 1065353216) = _
    rw [show segN (L, true, 1065353216) = 12 from hn]
  rw [e]
  obtain ⟨s, s1, s2⟩ := sum_rel 12 (Nat.le_refl _) h hB
  have c12 : ((12 : Nat) : Rat) = 12 := rfl
  rw [c12] at s2
  have hS := SumV_nb (T := T) (b := b) (n := 12) fun k hk => by obtain ⟨_, _, _, g⟩ := h k hk; exact g
  have B0 := hS.nn
  generalize SumV T 12 = V at *
  generalize SumR b 12 = B at *
  have hu : u24 = 1 / 16777216 := rfl
  have ht : tn ≤ 1 / 1000000000000 := by decide +kernel
  have ht0 := tn_0
  have k1 := s2.from hS
  have e1 : s.sm 1 = s := by apply R3.ext' <;> (unfold R3.sm; grind)
  obtain ⟨t, t1, t2⟩ := scale3_rel (A := 10001 / 10000 * B + 1000 * tn) s1 qv_one2 (by rw [e1]; exact k1.mono (by rw [hu]; grind)) (by grind)
  rw [e1] at t2
  have k2 := (t2.tri s2)
  have k3 := k2.from hS
  have e2 : R3.zero.add t = t := by apply R3.ext' <;> (unfold R3.add R3.zero; grind)
  obtain ⟨F, f1, f2⟩ := add3_rel (v := z3) (a := R3.zero) (A := 10002 / 10000 * B + 1000 * tn) ⟨qv_zero, qv_zero, qv_zero⟩ t1 (by rw [e2]; exact k3.mono (by rw [hu]; grind)) (by grind)
  rw [e2] at f2
  exact ⟨F, f1, (f2.tri k2).mono (by rw [hu]; grind)⟩
end Go.Proofs.Ytfkblhlkeglilaa

namespace Go.Proofs.Ytfkblhlkeglilaa
open Go.RowKit R3
set_option maxRecDepth 20000
attribute [local irreducible] D9 D7 UU WW W9
section
variable {F : V3} {f : R3}
theorem inn_ex (h : qv3 F f.x f.y f.z) (hR : f.dot f ≤ 900000) : ∃ t, qv (inner3 F F) t ∧ Rg (t - f.dot f) (3002 / 1000 * u24 * f.dot f + 100 * tn) := by
  have n1 := sq_nn f.x
  have n2 := sq_nn f.y
  have n3 := sq_nn f.z
  have e : f.dot f = f.x * f.x + f.y * f.y + f.z * f.z := rfl
  rw [e] at hR ⊢
  obtain ⟨x, x1, x2⟩ := rl_mul h.x h.x ⟨by grind, by grind⟩
  obtain ⟨y, y1, y2⟩ := rl_mul h.y h.y ⟨by grind, by grind⟩
  obtain ⟨z, z1, z2⟩ := rl_mul h.z h.z ⟨by grind, by grind⟩
  rw [ab_pos n1] at x2
  rw [ab_pos n2] at y2
  rw [ab_pos n3] at z2
  have a1 := ab_pos n1
  have a2 := ab_pos n2
  have a3 := ab_pos n3
  generalize f.x * f.x = A at *
  generalize f.y * f.y = B at *
  generalize f.z * f.z = C at *
  have hu : u24 = 1 / 16777216 := rfl
  have ht : tn ≤ 1 / 1000000000000 := by decide +kernel
  have ht0 := tn_0
  have a4 : ab (A + B) ≤ A + B := by rw [ab_pos (show 0 ≤ A + B by grind)]; exact Rat.le_refl
  obtain ⟨w, w1, w2⟩ := ad_rel (A := A) (B := B) (T := 20001 / 10000 * u24 * (A + B) + 4 * tn) x1 y1 x2 y2 (by rw [a1]; exact Rat.le_refl) (by rw [a2]; exact Rat.le_refl) (by rw [hu]; grind) (by rw [hu]; grind)
  exact ad_rel (A := A + B) (B := C) (T := 3002 / 1000 * u24 * (A + B + C) + 100 * tn) w1 z1 w2 z2 a4 (by rw [a3]; exact Rat.le_refl) (by rw [hu]; grind) (by rw [hu]; grind)
/-- Roots are among the rational numbers, nearly. -/
theorem bisect {R : Rat} (h0 : 0 ≤ R) (h9 : R ≤ 1024 * 1024) : ∀ n : Nat, ∃ s : Rat, 0 ≤ s ∧ s * s ≤ R ∧ R ≤ (s + 1024 / ((2 ^ n : Nat) : Rat)) * (s + 1024 / ((2 ^ n : Nat) : Rat))
  | 0 => ⟨0, Rat.le_refl, by rw [Rat.zero_mul]; exact h0, by
    have : ((2 ^ 0 : Nat) : Rat) = 1 := rfl
    rw [this]; grind⟩
  | n + 1 => by
    obtain ⟨s, s0, s1, s2⟩ := bisect h0 h9 n
    have e : (1024 : Rat) / ((2 ^ n : Nat) : Rat) = 1024 / ((2 ^ (n + 1) : Nat) : Rat) + 1024 / ((2 ^ (n + 1) : Nat) : Rat) := by
      have hp : (0 : Rat) < ((2 ^ n : Nat) : Rat) := Rat.natCast_lt_natCast.2 (pow_pos' n)
      have e1 : ((2 ^ (n + 1) : Nat) : Rat) = ((2 ^ n : Nat) : Rat) * 2 := by rw [Nat.pow_succ, Rat.natCast_mul]; rfl
      rw [e1]; grind
    have hp : (0 : Rat) ≤ 1024 / ((2 ^ (n + 1) : Nat) : Rat) := by
      have hq : (0 : Rat) < ((2 ^ (n + 1) : Nat) : Rat) := Rat.natCast_lt_natCast.2 (pow_pos' (n + 1))
      refine Rat.le_of_mul_le_mul_right (c := ((2 ^ (n + 1) : Nat) : Rat)) ?_ hq
      rw [Rat.zero_mul, Rat.div_mul_cancel (by intro h; rw [h] at hq; exact absurd hq (by decide))]
      decide
    rw [e] at s2
    generalize 1024 / ((2 ^ (n + 1) : Nat) : Rat) = d at *
    rcases (Rat.le_total : (s + d) * (s + d) ≤ R ∨ R ≤ (s + d) * (s + d)) with h | h
    · exact ⟨s + d, by grind, h, by rw [Rat.add_assoc]; exact s2⟩
    · exact ⟨s, s0, s1, h⟩
theorem len_ex (h : qv3 F f.x f.y f.z) (h0 : 1 / 1000000000000 ≤ f.dot f) (h9 : f.dot f ≤ 900000) : ∃ x, qv (long3 F) x ∧ 0 < x ∧ Rg (x * x - f.dot f) (632 / 100 * u24 * f.dot f) := by
  obtain ⟨t, t1, t2⟩ := inn_ex h h9
  generalize f.dot f = R at *
  have hu : u24 = 1 / 16777216 := rfl
  have ht : 100 * tn ≤ 1 / 10000000000000000000000000000000 := by decide +kernel
  have t3 : Rg (t - R) (3003 / 1000 * u24 * R) := t2.mono (by rw [hu]; grind)
  obtain ⟨t4, t5⟩ := t3
  have key : ∃ z, qv (sqrt32 (inner3 F F)) z ∧ 0 < z ∧ t ≤ z * z * (1 + 33 / 10 * u24) ∧ z * z ≤ t * (1 + 33 / 10 * u24) := by
    rcases (Rat.le_total : t ≤ 256 ∨ 256 ≤ t) with g | g
    · exact rl_root (K := 16) (k := 4) (c := 99 / 100000000) (ρ := 1 / 60000000) (E := 33 / 10 * u24) rfl (by decide) t1 (by decide +kernel) (by rw [hu] at t4; grind) (by grind) (by decide +kernel) (by decide +kernel) (by decide +kernel) (by decide +kernel) (by decide +kernel)
    · exact rl_root (K := 1024) (k := 10) (c := 16) (ρ := 1 / 1000000000000) (E := 33 / 10 * u24) rfl (by decide) t1 (by decide +kernel) (by grind) (by rw [hu] at t5; grind) (by decide +kernel) (by decide +kernel) (by decide +kernel) (by decide +kernel) (by decide +kernel)
  obtain ⟨x, x1, x2, x3, x4⟩ := key
  refine ⟨x, x1, x2, ?_⟩
  rw [hu] at x3 x4 t4 t5 ⊢
  clear t1 t2 x1 h
  generalize x * x = X at *
  constructor <;> grind
theorem dir_rel (h : qv3 F f.x f.y f.z) (h0 : 1 / 1000000000000 ≤ f.dot f) (h9 : f.dot f ≤ 900000) : ∃ (D : R3) (l : Rat), qv3 (unit3 F) D.x D.y D.z ∧ 0 < l ∧ Rg ((f.sm l).dot (f.sm l) - 1) (1 / 1000000000) ∧ nb (D.sub (f.sm l)) (65 / 10 * u24) := by
  obtain ⟨x, x1, x2, x3⟩ := len_ex h h0 h9
  have hu : u24 = 1 / 16777216 := rfl
  have ht : tn ≤ 1 / 10000000000000000000000000000000 := by decide +kernel
  have xx : 81 / 100000000000000 ≤ x * x ∧ x * x ≤ 900100 := by obtain ⟨g1, g2⟩ := x3; rw [hu] at g1 g2; constructor <;> grind
  have x8 : 9 / 10000000 ≤ x := rsq_le (Rat.le_of_lt x2) (by grind)
  have x9 : x ≤ 1000 := rsq_le (by decide +kernel) (by grind)
  obtain ⟨m, m1, m2⟩ := rl_quo qv_one2 x1 x2 ⟨by grind, by grind⟩
  have h1 : ab (1 : Rat) = 1 := by decide +kernel
  rw [h1] at m2
  have tx : tn * x ≤ 1 / 100000000000000000000 := by
    have := Rat.mul_le_mul_of_nonneg_right ht (Rat.le_of_lt x2)
    grind
  have m3 : Rg (m * x - 1) (2001 / 1000 * u24) := m2.mono (by rw [hu]; grind)
  obtain ⟨m4, m5⟩ := m3
  have m0 : 0 ≤ m := Rat.le_of_mul_le_mul_right (c := x) (by rw [hu] at m4; grind) x2
  -- a number that makes the length one, more nearly
  obtain ⟨s, s0, s1, s2⟩ := bisect (show 0 ≤ f.dot f by grind) (by grind) 70
  have c60 : (1024 : Rat) / ((2 ^ 70 : Nat) : Rat) = 1 / 1152921504606846976 := by decide +kernel
  rw [c60] at s2
  have s8 : 9 / 10000000 ≤ s := by
    have := rsq_le (a := 999 / 1000000000) (b := s + 1 / 1152921504606846976) (by grind) (by grind)
    grind
  have hs : 0 < s := by grind
  have s3 : f.dot f ≤ s * s * (1 + 1 / 20000000000) := by
    have g1 : 1 / 1152921504606846976 ≤ s * (1 / 50000000000) := by grind
    have g2 := rsq_mono (a := s + 1 / 1152921504606846976) (b := s * (1 + 1 / 50000000000)) (by grind) (by grind)
    have g3 := sq_nn s
    grind
  obtain ⟨l, hl⟩ : ∃ l, l * s = 1 := ⟨1 / s, by rw [Rat.div_mul_cancel]; intro h; rw [h] at hs; exact absurd hs (by decide)⟩
  have l0 : 0 < l := by
    rcases (Rat.le_total : l ≤ 0 ∨ 0 ≤ l) with g | g
    · have := Rat.mul_le_mul_of_nonneg_right g s0
      grind
    · by_cases h : l = 0
      · rw [h, Rat.zero_mul] at hl; exact absurd hl (by decide)
      · exact Rat.lt_of_le_of_ne g (Ne.symm h)
  have ll := Rat.mul_pos l0 l0
  have els : l * l * (s * s) = 1 := by
    have : l * l * (s * s) = l * s * (l * s) := by grind
    rw [this, hl]; decide +kernel
  have hR1 : 1 ≤ l * l * f.dot f := by
    have := Rat.mul_le_mul_of_nonneg_left s1 (Rat.le_of_lt ll)
    rw [els] at this; exact this
  have hR2 : l * l * f.dot f ≤ 1 + 1 / 20000000000 := by
    have := Rat.mul_le_mul_of_nonneg_left s3 (Rat.le_of_lt ll)
    grind
  have eN : (f.sm l).dot (f.sm l) = l * l * f.dot f := by unfold R3.dot R3.sm; grind
  -- the two numbers
  obtain ⟨y, hy⟩ : ∃ y, y = m * s := ⟨_, rfl⟩
  have y0 : 0 ≤ y := by rw [hy]; exact Rat.mul_nonneg m0 s0
  have eyx : y * y * (x * x) = m * x * (m * x) * (s * s) := by rw [hy]; grind
  have S0 := Rat.mul_pos hs hs
  have a1 : 0 ≤ m * x := Rat.mul_nonneg m0 (Rat.le_of_lt x2)
  have am1 := rsq_mono a1 (show m * x ≤ 1 + 2001 / 1000 * u24 by grind)
  have am2 := rsq_mono (show 0 ≤ 1 - 2001 / 1000 * u24 by decide +kernel) (show 1 - 2001 / 1000 * u24 ≤ m * x by grind)
  have yy0 := sq_nn y
  have yle : y ≤ 1 + 520 / 100 * u24 := by
    refine rsq_le (by decide +kernel) (Rat.le_of_mul_le_mul_right (c := s * s) ?_ S0)
    have g1 : s * s * (1 - 632 / 100 * u24) ≤ x * x := by
      obtain ⟨g, _⟩ := x3
      have := Rat.mul_le_mul_of_nonneg_right s1 (show 0 ≤ 1 - 632 / 100 * u24 by decide +kernel)
      grind
    have g2 := Rat.mul_le_mul_of_nonneg_left g1 yy0
    have g3 := Rat.mul_le_mul_of_nonneg_right am1 (Rat.le_of_lt S0)
    rw [eyx] at g2
    generalize y * y = Y at *
    generalize s * s = S at *
    have g4 : Y * S * (1 - 632 / 100 * u24) ≤ (1 + 2001 / 1000 * u24) * (1 + 2001 / 1000 * u24) * S := by grind
    have g5 := Rat.mul_nonneg (show 0 ≤ Y by grind) (Rat.le_of_lt S0)
    rw [hu] at g4 ⊢
    generalize Y * S = Z at *
    grind
  have yge : 1 - 520 / 100 * u24 ≤ y := by
    refine rsq_le y0 (Rat.le_of_mul_le_mul_right (c := s * s) ?_ S0)
    have g1 : x * x ≤ s * s * (1 + 633 / 100 * u24) := by
      obtain ⟨_, g⟩ := x3
      have := Rat.mul_le_mul_of_nonneg_right s3 (show 0 ≤ 1 + 632 / 100 * u24 by decide +kernel)
      rw [hu] at *
      grind
    have g2 := Rat.mul_le_mul_of_nonneg_left g1 yy0
    have g3 := Rat.mul_le_mul_of_nonneg_right am2 (Rat.le_of_lt S0)
    rw [eyx] at g2
    generalize y * y = Y at *
    generalize s * s = S at *
    have g4 : (1 - 2001 / 1000 * u24) * (1 - 2001 / 1000 * u24) * S ≤ Y * S * (1 + 633 / 100 * u24) := by grind
    have g5 := Rat.mul_nonneg (show 0 ≤ Y by grind) (Rat.le_of_lt S0)
    rw [hu] at g4 ⊢
    generalize Y * S = Z at *
    grind
  have hfl : nb (f.sm l) (1 + 1 / 10000000000) := ⟨by decide +kernel, by rw [eN]; grind⟩
  have efm : (f.sm m).sub (f.sm l) = (f.sm l).sm (y - 1) := by
    have e1 : m = y * l := by
      rw [hy]
      have : m * s * l = m * (l * s) := by grind
      rw [this, hl, Rat.mul_one]
    apply R3.ext' <;> (rw [e1]; unfold R3.sub R3.sm; grind)
  have k1 := hfl.sm (k := y - 1) (K := 520 / 100 * u24) ⟨by grind, by grind⟩
  rw [← efm] at k1
  have k2 := (k1.from hfl).mono (B := 10001 / 10000) (by rw [hu]; grind)
  obtain ⟨D, d1, d2⟩ := scale3_rel h m1 k2 (by decide +kernel)
  refine ⟨D, l, d1, l0, ?_, (d2.tri k1).mono (by rw [hu]; grind)⟩
  rw [eN]
  constructor <;> grind
end
end Go.Proofs.Ytfkblhlkeglilaa

namespace Go.Proofs.Ytfkblhlkeglilaa
open Go.RowKit R3 Mt
set_option maxRecDepth 20000
attribute [local irreducible] D9 D7 UU WW W9
def io : Rat := 1073741824
def Pt (x y z : Int) : R3 := ⟨(x : Rat), (y : Rat), (z : Rat)⟩
theorem nbr {a b : Nat} (h : a ≤ b) : (a : Rat) ≤ (b : Rat) := Rat.natCast_le_natCast.2 h
theorem sqI_rat (a : Int) : ((sqI a : Nat) : Rat) = (a : Rat) * (a : Rat) := by
  have h : ((sqI a : Nat) : Int) = a * a := Int.natAbs_mul_self' a
  rw [← Rat.intCast_mul, ← h]; rfl
theorem dR_rat (x y z a b : Int) : ((dR x y z a b : Nat) : Rat) = ((Pt x y z).sub ⟨(a : Rat), (b : Rat), 0⟩).dot ((Pt x y z).sub ⟨(a : Rat), (b : Rat), 0⟩) := by
  have e : dR x y z a b = sqI (Int.sub x a) + sqI (Int.sub y b) + sqI z := rfl
  rw [e, Rat.natCast_add, Rat.natCast_add, sqI_rat, sqI_rat, sqI_rat]
  have e1 : ((Int.sub x a : Int) : Rat) = (x : Rat) - (a : Rat) := Rat.intCast_sub x a
  have e2 : ((Int.sub y b : Int) : Rat) = (y : Rat) - (b : Rat) := Rat.intCast_sub y b
  rw [e1, e2]
  unfold Pt R3.dot R3.sub; grind
theorem nb_low {V d : R3} {s e : Rat} (he : e ≤ s) (hd : nb d e) (h : s * s ≤ V.dot V) : (s - e) * (s - e) ≤ (V.add d).dot (V.add d) := by
  rcases (Rat.le_total : (s - e) * (s - e) ≤ (V.add d).dot (V.add d) ∨ (V.add d).dot (V.add d) ≤ (s - e) * (s - e)) with g | g
  · exact g
  · have k := dot_le (v := V.add d) (A := s - e) ⟨by grind, g⟩ hd
    have e1 : V.dot V = (V.add d).dot (V.add d) - 2 * (V.add d).dot d + d.dot d := by unfold R3.dot R3.add; grind
    have k2 := k.1
    have k3 := hd.2
    rw [e1] at h
    grind
/-- a quotient, cut down -/
theorem div_rat (a b : Nat) (hb : 0 < b) : ((a / b : Nat) : Rat) * (b : Rat) ≤ (a : Rat) ∧ (a : Rat) < (((a / b : Nat) : Rat) + 1) * (b : Rat) := by
  constructor
  · rw [← Rat.natCast_mul]; exact nbr (Nat.div_mul_le_self a b)
  · have h : a < (a / b + 1) * b := by
      have := Nat.lt_div_mul_add (a := a) hb
      rw [Nat.add_mul, Nat.one_mul]; exact this
    have := Rat.natCast_lt_natCast.2 h
    rw [Rat.natCast_mul, Rat.natCast_add] at this
    exact this
theorem c47 : ((4700000 : Nat) : Rat) = 4700000 := rfl
theorem vt_real {x y z : Int} {e : Nat} {a b : Int} {h l : Nat} {p : R3} (H : Vt x y z e a b h l) (hp : nb (p.sub (Pt x y z)) (e : Rat)) :
    (l : Rat) * l ≤ (p.sub ⟨(a : Rat), (b : Rat), 0⟩).dot (p.sub ⟨(a : Rat), (b : Rat), 0⟩) ∧ (p.sub ⟨(a : Rat), (b : Rat), 0⟩).dot (p.sub ⟨(a : Rat), (b : Rat), 0⟩) ≤ (h : Rat) * h ∧
      ∀ X : Rat, 0 < X → Rg (X * X - (p.sub ⟨(a : Rat), (b : Rat), 0⟩).dot (p.sub ⟨(a : Rat), (b : Rat), 0⟩)) (7011 / 1000 * u24 * (p.sub ⟨(a : Rat), (b : Rat), 0⟩).dot (p.sub ⟨(a : Rat), (b : Rat), 0⟩)) → (l : Rat) ≤ X ∧ X ≤ (h : Rat) := by
  obtain ⟨s, s1, s2, hh, hl⟩ := H.ex
  have l0 := H.l0
  have r1 := nbr s1
  have r2 := nbr s2
  rw [dR_rat, Rat.natCast_mul] at r1
  rw [dR_rat, Rat.natCast_mul, Rat.natCast_add] at r2
  have eV : p.sub ⟨(a : Rat), (b : Rat), 0⟩ = ((Pt x y z).sub ⟨(a : Rat), (b : Rat), 0⟩).add (p.sub (Pt x y z)) := by apply R3.ext' <;> (unfold R3.add R3.sub; grind)
  have c1 : ((1 : Nat) : Rat) = 1 := rfl
  rw [c1] at r2
  -- the whole numbers
  have hes : e ≤ s := by
    rcases Nat.lt_or_ge s e with g | g
    · have : s - e = 0 := by omega
      rw [hl] at l0
      unfold loV at l0
      have e1 : Nat.sub s e = 0 := this
      rw [e1] at l0
      exact absurd l0 (by decide)
    · exact g
  obtain ⟨n, hn⟩ : ∃ n, s = n + e := ⟨s - e, by omega⟩
  have hl2 : l + n / 4700000 + 1 = n := by
    have e1 : loV e s = n - n / 4700000 - 1 := by
      show s - e - (s - e) / 4700000 - 1 = _
      rw [hn, Nat.add_sub_cancel]
    rw [e1] at hl
    omega
  have hh2 : h = s + 1 + e + (s + 1 + e) / 4700000 + 1 := hh
  obtain ⟨m, hm⟩ : ∃ m, m = s + 1 + e := ⟨_, rfl⟩
  rw [← hm] at hh2
  have d1 := div_rat n 4700000 (by decide)
  have d2 := div_rat m 4700000 (by decide)
  have q1 := congrArg (fun k : Nat => (k : Rat)) hl2
  have q2 := congrArg (fun k : Nat => (k : Rat)) hh2
  have q3 := congrArg (fun k : Nat => (k : Rat)) hm
  have q4 := congrArg (fun k : Nat => (k : Rat)) hn
  simp only [Rat.natCast_add, c1] at q1 q2 q3 q4
  rw [c47] at d1 d2
  obtain ⟨_, d1⟩ := d1
  obtain ⟨_, d2⟩ := d2
  have n0 : (0 : Rat) ≤ (n : Rat) := Rat.natCast_nonneg
  have m0 : (0 : Rat) ≤ (m : Rat) := Rat.natCast_nonneg
  have l9 : (0 : Rat) ≤ (l : Rat) := Rat.natCast_nonneg
  have h9 : (0 : Rat) ≤ (h : Rat) := Rat.natCast_nonneg
  have s9 : (0 : Rat) ≤ (s : Rat) := Rat.natCast_nonneg
  have e9 : (0 : Rat) ≤ (e : Rat) := Rat.natCast_nonneg
  have f1 : (0 : Rat) ≤ ((n / 4700000 : Nat) : Rat) := Rat.natCast_nonneg
  have f2 : (0 : Rat) ≤ ((m / 4700000 : Nat) : Rat) := Rat.natCast_nonneg
  generalize ((n / 4700000 : Nat) : Rat) = nq at *
  generalize ((m / 4700000 : Nat) : Rat) = mq at *
  have lo := nb_low (V := (Pt x y z).sub ⟨(a : Rat), (b : Rat), 0⟩) (s := (s : Rat)) (e := (e : Rat)) (nbr hes) hp r1
  have up := (nb.add (v := (Pt x y z).sub ⟨(a : Rat), (b : Rat), 0⟩) (A := (s : Rat) + 1) ⟨by grind, r2⟩ hp).2
  rw [← eV] at lo up
  have es : (s : Rat) - e = n := by grind
  have em : (s : Rat) + 1 + e = m := by grind
  rw [es] at lo
  rw [em] at up
  generalize (p.sub ⟨(a : Rat), (b : Rat), 0⟩).dot (p.sub ⟨(a : Rat), (b : Rat), 0⟩) = R at *
  have ln : (l : Rat) ≤ n := by grind
  have mh : (m : Rat) ≤ h := by grind
  refine ⟨Rat.le_trans (rsq_mono l9 ln) lo, Rat.le_trans up (rsq_mono m0 mh), fun X X0 hX => ?_⟩
  obtain ⟨x1, x2⟩ := hX
  have hu : u24 = 1 / 16777216 := rfl
  constructor
  · have k : (n : Rat) * (1 - 1 / 4700000) ≤ X := by
      refine rsq_le (Rat.le_of_lt X0) ?_
      have k1 := Rat.mul_le_mul_of_nonneg_right lo (show 0 ≤ 1 - 7011 / 1000 * u24 by decide +kernel)
      have k2 := Rat.mul_le_mul_of_nonneg_left (show (1 - 1 / 4700000) * (1 - 1 / 4700000) ≤ 1 - 7011 / 1000 * u24 by decide +kernel) (sq_nn (n : Rat))
      grind
    grind
  · have k : X ≤ (m : Rat) * (1 + 1 / 4700000) := by
      refine rsq_le (Rat.mul_nonneg m0 (by decide +kernel)) ?_
      have k1 := Rat.mul_le_mul_of_nonneg_right up (show 0 ≤ 1 + 7011 / 1000 * u24 by decide +kernel)
      have k2 := Rat.mul_le_mul_of_nonneg_left (show 1 + 7011 / 1000 * u24 ≤ (1 + 1 / 4700000) * (1 + 1 / 4700000) by decide +kernel) (sq_nn (m : Rat))
      grind
    grind
end Go.Proofs.Ytfkblhlkeglilaa

namespace Go.Proofs.Ytfkblhlkeglilaa
open Go.RowKit R3 Mt
set_option maxRecDepth 20000
attribute [local irreducible] D9 D7 UU WW W9
def KQ : Rat := 170141183460469231731687303715884105728
theorem KQ_pos : 0 < KQ := by decide +kernel
theorem KQ_nat : ((170141183460469231731687303715884105728 : Nat) : Rat) = KQ := rfl
theorem un_rat (Q : Nat) : ((Q : Rat) + 1) * (1 + 62 / 10 * u24) ≤ ((un Q : Nat) : Rat) := by
  have e : un Q = Q + Q / 2097152 + 2 := rfl
  obtain ⟨_, d⟩ := div_rat Q 2097152 (by decide)
  have c1 : ((2097152 : Nat) : Rat) = 2097152 := rfl
  have c2 : ((2 : Nat) : Rat) = 2 := rfl
  rw [c1] at d
  rw [e, Rat.natCast_add, Rat.natCast_add, c2]
  have hu : u24 = 1 / 16777216 := rfl
  have f1 : (0 : Rat) ≤ ((Q / 2097152 : Nat) : Rat) := Rat.natCast_nonneg
  rw [hu]
  grind
theorem dn_rat (Q : Nat) : ((dn Q : Nat) : Rat) ≤ (Q : Rat) * (1 - 62 / 10 * u24) := by
  have e : dn Q = Q - Q / 2097152 - 1 := rfl
  obtain ⟨_, d⟩ := div_rat Q 2097152 (by decide)
  have c1 : ((2097152 : Nat) : Rat) = 2097152 := rfl
  rw [c1] at d
  have hu : u24 = 1 / 16777216 := rfl
  have f0 : (0 : Rat) ≤ (Q : Rat) := Rat.natCast_nonneg
  have f1 : (0 : Rat) ≤ ((Q / 2097152 : Nat) : Rat) := Rat.natCast_nonneg
  rcases Nat.lt_or_ge Q (Q / 2097152 + 1) with g | g
  · have e0 : dn Q = 0 := by rw [e]; omega
    rw [e0]
    have := Rat.mul_nonneg f0 (show 0 ≤ 1 - 62 / 10 * u24 by decide +kernel)
    exact this
  · have e1 : dn Q + Q / 2097152 + 1 = Q := by rw [e]; omega
    have := congrArg (fun k : Nat => (k : Rat)) e1
    simp only [Rat.natCast_add] at this
    have c3 : ((1 : Nat) : Rat) = 1 := rfl
    rw [c3] at this
    rw [hu]
    grind
theorem c22 : ((2200000 : Nat) : Rat) = 2200000 := rfl
section
variable {q X Y Λ : Rat} {lA lB hA hB L2 : Nat}
/-- The edge's length leaves room. -/
theorem eL_real (hL : L2 + (lA + lB) * (lA + lB) / 2200000 + 1 + 1152921504606848 ≤ (lA + lB) * (lA + lB)) (hX : (lA : Rat) ≤ X) (hY : (lB : Rat) ≤ Y) : (L2 : Rat) + 76 / 10 * u24 * ((X + Y) * (X + Y)) + 1152921504606848 ≤ (X + Y) * (X + Y) := by
  have r := nbr hL
  obtain ⟨_, d⟩ := div_rat ((lA + lB) * (lA + lB)) 2200000 (by decide)
  have c1 : ((1 : Nat) : Rat) = 1 := rfl
  have c2 : ((1152921504606848 : Nat) : Rat) = 1152921504606848 := rfl
  rw [c22] at d
  simp only [Rat.natCast_add, c1, c2, Rat.natCast_mul] at r d
  have a0 : (0 : Rat) ≤ (lA : Rat) := Rat.natCast_nonneg
  have b0 : (0 : Rat) ≤ (lB : Rat) := Rat.natCast_nonneg
  have k := rsq_mono (a := (lA : Rat) + lB) (b := X + Y) (by grind) (by grind)
  have hu : u24 = 1 / 16777216 := rfl
  rw [hu]
  generalize (((lA + lB) * (lA + lB) / 2200000 : Nat) : Rat) = fl at *
  generalize ((lA : Rat) + lB) * ((lA : Rat) + lB) = bb at *
  generalize (X + Y) * (X + Y) = HH at *
  grind
theorem q_hi (hL : L2 + (lA + lB) * (lA + lB) / 2200000 + 1 + 1152921504606848 ≤ (lA + lB) * (lA + lB)) (A0 : 0 < lA) (B0 : 0 < lB) (hX : (lA : Rat) ≤ X) (hY : (lB : Rat) ≤ Y) (hΛ : Rg (Λ - L2) (76 / 10 * u24 * ((X + Y) * (X + Y)))) (q0 : 0 ≤ q) (hq : q * (X * Y * ((X + Y) * (X + Y) - Λ)) ≤ 2 * KQ * (X + Y) * (1 + 62 / 10 * u24)) :
    q ≤ 2 * ((un (qhV lA lB L2) : Nat) : Rat) := by
  have hLr := eL_real hL hX hY
  obtain ⟨fl, hfl⟩ : ∃ fl, fl = (lA + lB) * (lA + lB) / 2200000 := ⟨_, rfl⟩
  obtain ⟨_, d⟩ := div_rat ((lA + lB) * (lA + lB)) 2200000 (by decide)
  rw [← hfl] at hL d
  obtain ⟨D, hD⟩ : ∃ D, (lA + lB) * (lA + lB) = D + (L2 + fl + 1) := ⟨(lA + lB) * (lA + lB) - (L2 + fl + 1), by omega⟩
  have D0 : 0 < D := by omega
  obtain ⟨Q, hQ⟩ : ∃ Q, Q = qhV lA lB L2 := ⟨_, rfl⟩
  have eQ : Q = (lA + lB) * 170141183460469231731687303715884105728 / (lA * lB * D) := by
    rw [hQ]
    show (lA + lB) * 170141183460469231731687303715884105728 / (lA * lB * ((lA + lB) * (lA + lB) - (L2 + (lA + lB) * (lA + lB) / 2200000 + 1))) = _
    rw [← hfl, hD, Nat.add_sub_cancel]
  have P0 : 0 < lA * lB * D := Nat.mul_pos (Nat.mul_pos A0 B0) D0
  obtain ⟨_, dq⟩ := div_rat ((lA + lB) * 170141183460469231731687303715884105728) (lA * lB * D) P0
  rw [← eQ] at dq
  rw [← hQ]
  have hun := un_rat Q
  have rD := congrArg (fun k : Nat => (k : Rat)) hD
  have c1 : ((1 : Nat) : Rat) = 1 := rfl
  rw [c22] at d
  simp only [Rat.natCast_add, c1, Rat.natCast_mul] at rD d
  rw [Rat.natCast_mul, KQ_nat, Rat.natCast_add, Rat.natCast_mul, Rat.natCast_mul] at dq
  have a0 : (0 : Rat) < (lA : Rat) := Rat.natCast_lt_natCast.2 A0
  have b0 : (0 : Rat) < (lB : Rat) := Rat.natCast_lt_natCast.2 B0
  have dd0 : (0 : Rat) < (D : Rat) := Rat.natCast_lt_natCast.2 D0
  have L0 : (0 : Rat) ≤ (L2 : Rat) := Rat.natCast_nonneg
  have hK := KQ_pos
  obtain ⟨b, hb⟩ : ∃ b, b = (lA : Rat) + lB := ⟨_, rfl⟩
  obtain ⟨H, hH⟩ : ∃ H, H = X + Y := ⟨_, rfl⟩
  rw [← hb] at rD d dq
  rw [← hH] at hLr hΛ hq
  have bH : b ≤ H := by rw [hb, hH]; grind
  have b1 : 0 < b := by rw [hb]; grind
  have H0 : 0 < H := by grind
  -- the real denominators
  obtain ⟨P, hP⟩ : ∃ P, P = (lA : Rat) * lB := ⟨_, rfl⟩
  have PP : 0 < P := by rw [hP]; exact Rat.mul_pos a0 b0
  have PXY : P ≤ X * Y := by
    have k1 := Rat.mul_le_mul_of_nonneg_right hX (Rat.le_of_lt b0)
    have k2 := Rat.mul_le_mul_of_nonneg_left hY (show 0 ≤ X by grind)
    rw [hP]; exact Rat.le_trans k1 k2
  rw [← hP] at dq
  have hu : u24 = 1 / 16777216 := rfl
  obtain ⟨M, hM⟩ : ∃ M, M = H * H * (1 - 76 / 10 * u24) - L2 := ⟨_, rfl⟩
  have M0 : 0 ≤ M := by rw [hM]; grind
  have hMΛ : M ≤ H * H - Λ := by obtain ⟨_, k⟩ := hΛ; rw [hM]; grind
  have fl0 : (0 : Rat) ≤ (fl : Rat) := Rat.natCast_nonneg
  have hDM : (D : Rat) * H ≤ M * b := by
    have k1 : (D : Rat) ≤ b * b * (1 - 76 / 10 * u24) - L2 := by rw [hu]; grind
    have k2 := Rat.mul_le_mul_of_nonneg_right k1 (Rat.le_of_lt H0)
    have k3 := Rat.mul_nonneg (Rat.mul_nonneg (Rat.mul_nonneg (Rat.le_of_lt H0) (Rat.le_of_lt b1)) (show 0 ≤ H - b by grind)) (show 0 ≤ 1 - 76 / 10 * u24 by decide +kernel)
    have k4 := Rat.mul_nonneg L0 (show 0 ≤ H - b by grind)
    rw [hM]; grind
  have s1 : q * (P * D) * H ≤ q * P * M * b := by
    have := Rat.mul_le_mul_of_nonneg_left hDM (Rat.mul_nonneg q0 (Rat.le_of_lt PP))
    grind
  have s2 : q * P * M ≤ 2 * KQ * H * (1 + 62 / 10 * u24) := by
    have k1 := Rat.mul_le_mul_of_nonneg_left PXY q0
    have k2 := Rat.mul_le_mul_of_nonneg_right k1 M0
    have k3 := Rat.mul_le_mul_of_nonneg_left hMΛ (Rat.mul_nonneg q0 (show 0 ≤ X * Y by grind))
    grind
  have s3 := Rat.mul_le_mul_of_nonneg_right s2 (Rat.le_of_lt b1)
  have s4 : q * (P * D) ≤ 2 * KQ * b * (1 + 62 / 10 * u24) := by
    refine Rat.le_of_mul_le_mul_right (c := H) ?_ H0
    grind
  have PD := Rat.mul_pos PP dd0
  refine Rat.le_trans (b := 2 * (((Q : Rat) + 1) * (1 + 62 / 10 * u24))) ?_ (by grind)
  refine Rat.le_of_mul_le_mul_right (c := P * D) ?_ PD
  have s5 := Rat.mul_le_mul_of_nonneg_right (Rat.le_of_lt dq) (show 0 ≤ 1 + 62 / 10 * u24 by decide +kernel)
  grind
theorem q_lo (hL : L2 ≤ (hA + hB) * (hA + hB)) (A0 : 0 < hA) (B0 : 0 < hB) (X0 : 0 < X) (Y0 : 0 < Y) (hX : X ≤ (hA : Rat)) (hY : Y ≤ (hB : Rat)) (hΛ : Rg (Λ - L2) (76 / 10 * u24 * ((X + Y) * (X + Y)))) (hH9 : (L2 : Rat) ≤ (X + Y) * (X + Y)) (q0 : 0 ≤ q) (hq : 2 * KQ * (X + Y) * (1 - 62 / 10 * u24) ≤ q * (X * Y * ((X + Y) * (X + Y) - Λ))) :
    2 * ((dn (qlV hA hB L2) : Nat) : Rat) ≤ q := by
  obtain ⟨fl, hfl⟩ : ∃ fl, fl = (hA + hB) * (hA + hB) / 2200000 := ⟨_, rfl⟩
  obtain ⟨_, d⟩ := div_rat ((hA + hB) * (hA + hB)) 2200000 (by decide)
  rw [← hfl] at d
  obtain ⟨D, hD⟩ : ∃ D, (hA + hB) * (hA + hB) + fl + 1 = D + L2 := ⟨(hA + hB) * (hA + hB) + fl + 1 - L2, by omega⟩
  have D0 : 0 < D := by omega
  obtain ⟨Q, hQ⟩ : ∃ Q, Q = qlV hA hB L2 := ⟨_, rfl⟩
  have eQ : Q = (hA + hB) * 170141183460469231731687303715884105728 / (hA * hB * D) := by
    rw [hQ]
    show (hA + hB) * 170141183460469231731687303715884105728 / (hA * hB * ((hA + hB) * (hA + hB) + (hA + hB) * (hA + hB) / 2200000 + 1 - L2)) = _
    rw [← hfl, hD, Nat.add_sub_cancel]
  have P0 : 0 < hA * hB * D := Nat.mul_pos (Nat.mul_pos A0 B0) D0
  obtain ⟨dq, _⟩ := div_rat ((hA + hB) * 170141183460469231731687303715884105728) (hA * hB * D) P0
  rw [← eQ] at dq
  rw [← hQ]
  have hdn := dn_rat Q
  have rD := congrArg (fun k : Nat => (k : Rat)) hD
  have c1 : ((1 : Nat) : Rat) = 1 := rfl
  rw [c22] at d
  simp only [Rat.natCast_add, c1, Rat.natCast_mul] at rD d
  rw [Rat.natCast_mul, Rat.natCast_mul, Rat.natCast_mul, KQ_nat, Rat.natCast_add] at dq
  have a0 : (0 : Rat) < (hA : Rat) := Rat.natCast_lt_natCast.2 A0
  have b0 : (0 : Rat) < (hB : Rat) := Rat.natCast_lt_natCast.2 B0
  have dd0 : (0 : Rat) < (D : Rat) := Rat.natCast_lt_natCast.2 D0
  have L0 : (0 : Rat) ≤ (L2 : Rat) := Rat.natCast_nonneg
  have hK := KQ_pos
  obtain ⟨b, hb⟩ : ∃ b, b = (hA : Rat) + hB := ⟨_, rfl⟩
  obtain ⟨H, hH⟩ : ∃ H, H = X + Y := ⟨_, rfl⟩
  rw [← hb] at rD d dq
  rw [← hH] at hΛ hq hH9
  have bH : H ≤ b := by rw [hb, hH]; grind
  have H0 : 0 < H := by rw [hH]; grind
  have b1 : 0 < b := by grind
  obtain ⟨P, hP⟩ : ∃ P, P = (hA : Rat) * hB := ⟨_, rfl⟩
  have PP : 0 < P := by rw [hP]; exact Rat.mul_pos a0 b0
  have PXY : X * Y ≤ P := by
    have k1 := Rat.mul_le_mul_of_nonneg_right hX (Rat.le_of_lt Y0)
    have k2 := Rat.mul_le_mul_of_nonneg_left hY (Rat.le_of_lt a0)
    rw [hP]; exact Rat.le_trans k1 k2
  have XY0 := Rat.mul_pos X0 Y0
  rw [← hP] at dq
  have hu : u24 = 1 / 16777216 := rfl
  obtain ⟨M, hM⟩ : ∃ M, M = H * H * (1 + 76 / 10 * u24) - L2 := ⟨_, rfl⟩
  have HH := Rat.mul_pos H0 H0
  have M0 : 0 ≤ M := by rw [hM, hu]; grind
  have hMΛ : H * H - Λ ≤ M := by obtain ⟨k, _⟩ := hΛ; rw [hM]; grind
  have hDM : M * b ≤ (D : Rat) * H := by
    have bb0 := sq_nn b
    have k1 : b * b * (1 + 76 / 10 * u24) - L2 ≤ (D : Rat) := by rw [hu]; grind
    have k2 := Rat.mul_le_mul_of_nonneg_right k1 (Rat.le_of_lt H0)
    have k3 := Rat.mul_nonneg (Rat.mul_nonneg (Rat.mul_nonneg (Rat.le_of_lt H0) (Rat.le_of_lt b1)) (show 0 ≤ b - H by grind)) (show 0 ≤ 1 + 76 / 10 * u24 by decide +kernel)
    have k4 := Rat.mul_nonneg L0 (show 0 ≤ b - H by grind)
    rw [hM]; grind
  have s1 : q * P * M * b ≤ q * (P * D) * H := by
    have := Rat.mul_le_mul_of_nonneg_left hDM (Rat.mul_nonneg q0 (Rat.le_of_lt PP))
    grind
  have s2 : 2 * KQ * H * (1 - 62 / 10 * u24) ≤ q * P * M := by
    have k1 := Rat.mul_le_mul_of_nonneg_left PXY q0
    have k2 := Rat.mul_le_mul_of_nonneg_right k1 M0
    have k3 := Rat.mul_le_mul_of_nonneg_left hMΛ (Rat.mul_nonneg q0 (Rat.le_of_lt XY0))
    grind
  have s3 := Rat.mul_le_mul_of_nonneg_right s2 (Rat.le_of_lt b1)
  have s4 : 2 * KQ * b * (1 - 62 / 10 * u24) ≤ q * (P * D) := by
    refine Rat.le_of_mul_le_mul_right (c := H) ?_ H0
    grind
  have PD := Rat.mul_pos PP dd0
  refine Rat.le_trans (b := 2 * ((Q : Rat) * (1 - 62 / 10 * u24))) (by grind) ?_
  refine Rat.le_of_mul_le_mul_right (c := P * D) ?_ PD
  have s5 := Rat.mul_le_mul_of_nonneg_right dq (show 0 ≤ 1 - 62 / 10 * u24 by decide +kernel)
  grind
end
end Go.Proofs.Ytfkblhlkeglilaa

namespace Go.Proofs.Ytfkblhlkeglilaa
open Go.RowKit R3 Mt
set_option maxRecDepth 20000
attribute [local irreducible] D9 D7 UU WW W9
/-- An edge's numbers belong together. -/
structure EdOk (d : Ed) : Prop where
  ex : d.ex = d.bx - d.ax
  ey : d.ey = d.by' - d.ay
  c0 : d.c0 = d.ax * d.by' - d.ay * d.bx
  L2 : (d.L2 : Int) = d.ex * d.ex + d.ey * d.ey
  L9 : d.L2 ≤ 555900000 * 555900000
instance (d : Ed) : Decidable (EdOk d) := decidable_of_iff (d.ex = d.bx - d.ax ∧ d.ey = d.by' - d.ay ∧ d.c0 = d.ax * d.by' - d.ay * d.bx ∧ (d.L2 : Int) = d.ex * d.ex + d.ey * d.ey ∧ d.L2 ≤ 555900000 * 555900000) ⟨fun ⟨a, b, c, d, e⟩ => ⟨a, b, c, d, e⟩, fun h => ⟨h.ex, h.ey, h.c0, h.L2, h.L9⟩⟩
theorem eds_ok : ∀ d ∈ eds, EdOk d := by decide +kernel
/-- The corner's place, in units. -/
def cA (d : Ed) : R3 := ⟨(d.ax : Rat), (d.ay : Rat), 0⟩
def cB (d : Ed) : R3 := ⟨(d.bx : Rat), (d.by' : Rat), 0⟩
def eW3 (d : Ed) : R3 := ⟨(d.ex : Rat), (d.ey : Rat), 0⟩
def cP (x y z : Int) (d : Ed) : R3 := ⟨(z : Rat) * d.ey, -((z : Rat) * d.ex), (kaI x y d : Rat)⟩
theorem io_pos : 0 < io := by decide +kernel
theorem io_inv : io * (1 / io) = 1 := by decide +kernel
section
variable {x y z : Int} {e : Nat} {g : Gh} {p : R3} {P a b : V3}
theorem eW3_is {d : Ed} (h : EdOk d) : (cB d).sub (cA d) = eW3 d := by
  have e1 : ((d.ex : Int) : Rat) = (d.bx : Rat) - d.ax := by rw [h.ex, Rat.intCast_sub]
  have e2 : ((d.ey : Int) : Rat) = (d.by' : Rat) - d.ay := by rw [h.ey, Rat.intCast_sub]
  apply R3.ext'
  · exact e1.symm
  · exact e2.symm
  · show (0 : Rat) - 0 = 0
    decide +kernel
theorem eW3_sq {d : Ed} (h : EdOk d) : (eW3 d).dot (eW3 d) = (d.L2 : Rat) := by
  have e1 : ((d.L2 : Nat) : Rat) = (d.ex : Rat) * d.ex + (d.ey : Rat) * d.ey := by
    rw [← Rat.intCast_mul, ← Rat.intCast_mul, ← Rat.intCast_add, ← h.L2]; rfl
  rw [e1]
  show (d.ex : Rat) * d.ex + (d.ey : Rat) * d.ey + 0 * 0 = _
  grind
theorem eW3_nb {d : Ed} (h : EdOk d) : nb (eW3 d) 555900000 := ⟨by decide +kernel, by
  rw [eW3_sq h]
  have := nbr h.L9
  rw [Rat.natCast_mul] at this
  exact this⟩
theorem cP_is {d : Ed} (h : EdOk d) : cP x y z d = ((Pt x y z).sub (cA d)).cr ((Pt x y z).sub (cB d)) := by
  have e1 : ((d.ex : Int) : Rat) = (d.bx : Rat) - d.ax := by rw [h.ex, Rat.intCast_sub]
  have e2 : ((d.ey : Int) : Rat) = (d.by' : Rat) - d.ay := by rw [h.ey, Rat.intCast_sub]
  have e3 : ((d.c0 : Int) : Rat) = (d.ax : Rat) * d.by' - (d.ay : Rat) * d.bx := by rw [h.c0, Rat.intCast_sub, Rat.intCast_mul, Rat.intCast_mul]
  have e4 : ((kaI x y d : Int) : Rat) = (d.c0 : Rat) + ((y : Rat) * d.ex - (x : Rat) * d.ey) := by
    have : kaI x y d = d.c0 + (y * d.ex - x * d.ey) := rfl
    rw [this, Rat.intCast_add, Rat.intCast_sub, Rat.intCast_mul, Rat.intCast_mul]
  apply R3.ext'
  · show (z : Rat) * d.ey = ((y : Rat) - d.ay) * ((z : Rat) - 0) - ((z : Rat) - 0) * ((y : Rat) - d.by')
    rw [e2]; grind
  · show -((z : Rat) * d.ex) = ((z : Rat) - 0) * ((x : Rat) - d.bx) - ((x : Rat) - d.ax) * ((z : Rat) - 0)
    rw [e1]; grind
  · show ((kaI x y d : Int) : Rat) = ((x : Rat) - d.ax) * ((y : Rat) - d.by') - ((y : Rat) - d.ay) * ((x : Rat) - d.bx)
    rw [e4, e1, e2, e3]; grind
/-- The program's difference. -/
theorem df_of {A : R3} (hp : qv3 P p.x p.y p.z) (ha : qv3 a (A.x * (1 / io)) (A.y * (1 / io)) (A.z * (1 / io))) (h9 : ((p.sm io).sub A).dot ((p.sm io).sub A) ≤ 16000000000 * 16000000000) :
    ∃ r : R3, Df (sub3 P a) r ∧ r.sm io = (p.sm io).sub A ∧ io * io * r.dot r = ((p.sm io).sub A).dot ((p.sm io).sub A) := by
  have hi := io_inv
  obtain ⟨j, hj⟩ : ∃ j, j = 1 / io := ⟨_, rfl⟩
  rw [← hj] at hi ha
  obtain ⟨r, hr⟩ : ∃ r : R3, r = p.sub (A.sm j) := ⟨_, rfl⟩
  have er : r.sm io = (p.sm io).sub A := by
    rw [hr]
    apply R3.ext' <;> (unfold R3.sm R3.sub; grind)
  have eR : io * io * r.dot r = ((p.sm io).sub A).dot ((p.sm io).sub A) := by
    rw [← er]; unfold R3.dot R3.sm; grind
  rw [← eR] at h9
  have r9 : r.dot r ≤ 16 * 16 := by
    have : io * io * (16 * 16) ≥ 16000000000 * 16000000000 := by decide +kernel
    refine Rat.le_of_mul_le_mul_right (c := io * io) ?_ (by decide +kernel)
    grind
  have hc := nb_x (v := r) (B := 16) ⟨by decide, r9⟩
  have big : ∀ {t : Rat}, Rg t 16 → Rg t 1000000000000000000 := fun h => h.mono (by decide +kernel)
  have ex : p.x - A.x * j = r.x := by rw [hr]; unfold R3.sub R3.sm; grind
  have ey : p.y - A.y * j = r.y := by rw [hr]; unfold R3.sub R3.sm; grind
  have ez : p.z - A.z * j = r.z := by rw [hr]; unfold R3.sub R3.sm; grind
  obtain ⟨u, u1, u2⟩ := rl_sub hp.x ha.x (by rw [ex]; exact big hc.1)
  obtain ⟨v, v1, v2⟩ := rl_sub hp.y ha.y (by rw [ey]; exact big hc.2.1)
  obtain ⟨w, w1, w2⟩ := rl_sub hp.z ha.z (by rw [ez]; exact big hc.2.2)
  rw [ex] at u2
  rw [ey] at v2
  rw [ez] at w2
  exact ⟨r, ⟨⟨u, v, w, ⟨u1, v1, w1⟩, u2, v2, w2⟩, ab_le hc.1, ab_le hc.2.1, ab_le hc.2.2⟩, er, eR⟩
/-- What is known of an edge near the place. -/
structure Er (x y z : Int) (p : R3) (g : Gh) (q : Rat) (c T f : R3) (β : Rat) : Prop where
  fT : nb (f.sub T) (u24 * β + 3 * tn)
  Tβ : nb T β
  q0 : 0 ≤ q
  hq : Rg (q - ((g.ql + g.qh : Nat) : Rat)) ((g.qh - g.ql : Nat) : Rat)
  hc : nb (c.sub ((cP x y z g.d).sub (((p.sm io).sub (Pt x y z)).cr (eW3 g.d)))) (((g.hA * g.hB / 2940000 + 1 : Nat) : Nat) : Rat)
  cT : c.sm q = T.sm (KQ / io)
  β0 : 1502 / 100 * u24 * (β * (KQ / io)) ≤ ((2 * g.qh * (520 * g.hA) : Nat) : Rat)
theorem c520 : ((520 : Nat) : Rat) = 520 := rfl
theorem c2n : ((2 : Nat) : Rat) = 2 := rfl
theorem c1n : ((1 : Nat) : Rat) = 1 := rfl
theorem edge_real (hd : EdOk g.d) (G : GhOk x y z e g) (hP : qv3 P p.x p.y p.z) (hp : nb ((p.sm io).sub (Pt x y z)) (e : Rat)) (ha : qv3 a ((cA g.d).x * (1 / io)) ((cA g.d).y * (1 / io)) ((cA g.d).z * (1 / io))) (hb : qv3 b ((cB g.d).x * (1 / io)) ((cB g.d).y * (1 / io)) ((cB g.d).z * (1 / io))) :
    ∃ (q : Rat) (c T f : R3) (β : Rat), qv3 (segF a b P) f.x f.y f.z ∧ Er x y z p g q c T f β := by
  obtain ⟨a1, a2, a3⟩ := vt_real G.vA hp
  obtain ⟨b1, b2, b3⟩ := vt_real G.vB hp
  have hA9 : (g.hA : Rat) ≤ 16000000000 := nbr G.vA.h9
  have hB9 : (g.hB : Rat) ≤ 16000000000 := nbr G.vB.h9
  have lA0 : (34000000 : Rat) ≤ (g.lA : Rat) := nbr G.vA.l0
  have lB0 : (34000000 : Rat) ≤ (g.lB : Rat) := nbr G.vB.l0
  have hA0 : (0 : Rat) ≤ (g.hA : Rat) := Rat.natCast_nonneg
  have hB0 : (0 : Rat) ≤ (g.hB : Rat) := Rat.natCast_nonneg
  have eA : (⟨(g.d.ax : Rat), (g.d.ay : Rat), 0⟩ : R3) = cA g.d := rfl
  have eB : (⟨(g.d.bx : Rat), (g.d.by' : Rat), 0⟩ : R3) = cB g.d := rfl
  rw [eA] at a1 a2 a3
  rw [eB] at b1 b2 b3
  obtain ⟨r, r1, r2, r3⟩ := df_of hP ha (Rat.le_trans a2 (rsq_mono hA0 hA9))
  obtain ⟨s, s1, s2, s3⟩ := df_of hP hb (Rat.le_trans b2 (rsq_mono hB0 hB9))
  rw [← r3] at a1 a2 a3
  rw [← s3] at b1 b2 b3
  have hio := io_pos
  have eio : io = 1073741824 := rfl
  have kA := rsq_mono (show (0 : Rat) ≤ 34000000 by decide +kernel) lA0
  have kB := rsq_mono (show (0 : Rat) ≤ 34000000 by decide +kernel) lB0
  have kA9 := rsq_mono hA0 hA9
  have kB9 := rsq_mono hB0 hB9
  have R0 : 1 / 1000 ≤ r.dot r := by rw [eio] at a1; grind
  have R9 : r.dot r ≤ 250 := by rw [eio] at a2; grind
  have S0 : 1 / 1000 ≤ s.dot s := by rw [eio] at b1; grind
  have S9 : s.dot s ≤ 250 := by rw [eio] at b2; grind
  obtain ⟨X, Y, x0, y0, hX, hY, hF⟩ := seg_rel r1 s1 R0 R9 S0 S9
  have sc : ∀ {t ρ : Rat}, Rg (t * t - ρ) (7011 / 1000 * u24 * ρ) → Rg (io * t * (io * t) - io * io * ρ) (7011 / 1000 * u24 * (io * io * ρ)) := by
    intro t ρ h
    obtain ⟨h1, h2⟩ := h
    have i2 : 0 ≤ io * io := by decide +kernel
    have k1 := Rat.mul_le_mul_of_nonneg_left h1 i2
    have k2 := Rat.mul_le_mul_of_nonneg_left h2 i2
    constructor <;> grind
  obtain ⟨X1, X2⟩ := a3 (io * X) (Rat.mul_pos hio x0) (sc hX)
  obtain ⟨Y1, Y2⟩ := b3 (io * Y) (Rat.mul_pos hio y0) (sc hY)
  have hL := eL_real G.eL X1 Y1
  -- the edge's way
  have eW : (s.sub r).sm io = (eW3 g.d).sm (-1) := by
    rw [← eW3_is hd]
    have e1 : (s.sub r).sm io = (s.sm io).sub (r.sm io) := by apply R3.ext' <;> (unfold R3.sm R3.sub; grind)
    rw [e1, r2, s2]
    apply R3.ext' <;> (unfold R3.sm R3.sub; grind)
  have eL : io * io * (r.sub s).dot (r.sub s) = (g.d.L2 : Rat) := by
    rw [← eW3_sq hd]
    have e1 : (eW3 g.d).dot (eW3 g.d) = ((eW3 g.d).sm (-1)).dot ((eW3 g.d).sm (-1)) := by unfold R3.dot R3.sm; grind
    rw [e1, ← eW]
    unfold R3.dot R3.sm R3.sub; grind
  obtain ⟨HX, hHX⟩ : ∃ HX, HX = (X + Y) * (X + Y) := ⟨_, rfl⟩
  have eH : (io * X + io * Y) * (io * X + io * Y) = io * io * HX := by rw [hHX]; grind
  rw [eH] at hL
  obtain ⟨q, Λ, c, f, f1, q0, q9, hΛ, hq, hc, hf⟩ := hF (by
    rw [← hHX]
    rw [← eL] at hL
    have : io * io = 1152921504606846976 := by decide +kernel
    rw [this] at hL
    grind)
  rw [← hHX] at hΛ hq
  have i2 : io * io = 1152921504606846976 := by decide +kernel
  -- in units
  obtain ⟨κ, hκ⟩ : ∃ κ, κ = KQ / (io * io * io) := ⟨_, rfl⟩
  have κ0 : 0 < κ := by rw [hκ]; decide +kernel
  have hκ4 : κ * (io * io * (io * io)) = KQ * io := by rw [hκ]; decide +kernel
  have hκ2 : κ * (io * io) = KQ / io := by rw [hκ]; decide +kernel
  have hΛ2 : Rg (io * io * Λ - (g.d.L2 : Rat)) (76 / 10 * u24 * ((io * X + io * Y) * (io * X + io * Y))) := by
    rw [eH, ← eL]
    obtain ⟨h1, h2⟩ := hΛ
    have i0 : 0 ≤ io * io := by decide +kernel
    have k1 := Rat.mul_le_mul_of_nonneg_left h1 i0
    have k2 := Rat.mul_le_mul_of_nonneg_left h2 i0
    constructor <;> grind
  have eq1 : q * κ * (io * X * (io * Y) * ((io * X + io * Y) * (io * X + io * Y) - io * io * Λ)) = KQ * io * (q * (X * Y * (HX - Λ))) := by
    rw [eH, ← hκ4]; grind
  have KI : 0 ≤ KQ * io := by decide +kernel
  have q0' : 0 ≤ q * κ := Rat.mul_nonneg q0 (Rat.le_of_lt κ0)
  obtain ⟨g1, g2⟩ := hq
  have hi := q_hi (q := q * κ) G.eL (show 0 < g.lA from Nat.lt_of_lt_of_le (by decide) G.vA.l0) (show 0 < g.lB from Nat.lt_of_lt_of_le (by decide) G.vB.l0) X1 Y1 hΛ2 q0' (by
    rw [eq1]
    have := Rat.mul_le_mul_of_nonneg_left (show q * (X * Y * (HX - Λ)) ≤ 2 * (X + Y) * (1 + 62 / 10 * u24) by grind) KI
    grind)
  have lo := q_lo (q := q * κ) (hA := g.hA) (hB := g.hB) (L2 := g.d.L2) (by
    have h1 : g.lA ≤ g.hA := by
      have := Rat.le_trans X1 X2
      exact Rat.natCast_le_natCast.1 this
    have h2 : g.lB ≤ g.hB := by
      have := Rat.le_trans Y1 Y2
      exact Rat.natCast_le_natCast.1 this
    have h3 := Nat.mul_le_mul (Nat.add_le_add h1 h2) (Nat.add_le_add h1 h2)
    have := G.eL
    omega) (by
    rcases Nat.eq_zero_or_pos g.hA with h | h
    · have h1 := Rat.le_trans lA0 (Rat.le_trans X1 X2)
      rw [h] at h1; exact absurd h1 (by decide +kernel)
    · exact h) (by
    rcases Nat.eq_zero_or_pos g.hB with h | h
    · have h1 := Rat.le_trans lB0 (Rat.le_trans Y1 Y2)
      rw [h] at h1; exact absurd h1 (by decide +kernel)
    · exact h) (Rat.mul_pos hio x0) (Rat.mul_pos hio y0) X2 Y2 hΛ2 (by
    rw [eH]
    have hh : 0 ≤ 76 / 10 * u24 * (io * io * HX) := by
      have := sq_nn (X + Y)
      rw [hHX]
      exact Rat.mul_nonneg (by decide +kernel) (Rat.mul_nonneg (by decide +kernel) this)
    grind) q0' (by
    rw [eq1]
    have := Rat.mul_le_mul_of_nonneg_left (show 2 * (X + Y) * (1 - 62 / 10 * u24) ≤ q * (X * Y * (HX - Λ)) by grind) KI
    grind)
  rw [← G.hh] at hi
  rw [← G.hl] at lo
  have hm : Rg (q * κ - ((g.ql + g.qh : Nat) : Rat)) ((g.qh - g.ql : Nat) : Rat) := by
    have e1 : g.qh - g.ql + g.ql = g.qh := Nat.sub_add_cancel G.lh
    have e2 := congrArg (fun k : Nat => (k : Rat)) e1
    simp only [Rat.natCast_add] at e2
    rw [Rat.natCast_add]
    constructor <;> grind
  -- the product of the ways
  have XY0 := Rat.mul_pos x0 y0
  have hu : u24 = 1 / 16777216 := rfl
  obtain ⟨β, hβ⟩ : ∃ β, β = X * (1 + 4 * u24) * (555900000 / io) + 57 / 10 * u24 * (X * Y) := ⟨_, rfl⟩
  have hcβ : nb c β := by
    have k1 : nb r (X * (1 + 4 * u24)) := by
      refine ⟨Rat.mul_nonneg (Rat.le_of_lt x0) (by decide +kernel), ?_⟩
      obtain ⟨h1, _⟩ := hX
      have h3 := Rat.mul_le_mul_of_nonneg_right (show r.dot r * (1 - 7011 / 1000 * u24) ≤ X * X by grind) (show 0 ≤ (1 + 4 * u24) * (1 + 4 * u24) by decide +kernel)
      have h4 := Rat.mul_le_mul_of_nonneg_left (show 1 ≤ (1 - 7011 / 1000 * u24) * ((1 + 4 * u24) * (1 + 4 * u24)) by decide +kernel) (show 0 ≤ r.dot r by grind)
      grind
    have k2 : nb (s.sub r) (555900000 / io) := by
      have h1 := (eW3_nb hd).neg
      rw [← eW] at h1
      have h2 := h1.sm (k := 1 / io) (K := 1 / io) ⟨by decide +kernel, Rat.le_refl⟩
      have e1 : ((s.sub r).sm io).sm (1 / io) = s.sub r := by
        have hi := io_inv
        obtain ⟨j, hj⟩ : ∃ j, j = 1 / io := ⟨_, rfl⟩
        rw [← hj] at hi ⊢
        apply R3.ext' <;> (unfold R3.sm R3.sub; grind)
      rw [e1] at h2
      exact h2.mono (by decide +kernel)
    have k3 := k1.cr k2
    have e1 : r.cr (s.sub r) = r.cr s := by apply R3.ext' <;> (unfold R3.cr R3.sub; grind)
    rw [e1] at k3
    have k4 := hc.from k3
    exact k4.mono (by rw [hβ]; grind)
  have X16 : X ≤ 15 := by rw [eio] at X2; grind
  have Y16 : Y ≤ 15 := by rw [eio] at Y2; grind
  have XY9 : X * Y ≤ 225 := by
    have h1 := Rat.mul_le_mul_of_nonneg_right X16 (Rat.le_of_lt y0)
    grind
  have β9 : β ≤ 1000 := by rw [hβ, hu, eio]; grind
  have ST : (c.sm (io * io)).sm (q * κ) = (c.sm q).sm (KQ / io) := by
    rw [← hκ2]; apply R3.ext' <;> (unfold R3.sm; grind)
  refine ⟨q * κ, c.sm (io * io), c.sm q, f, q * β, f1, hf β hcβ β9, ?_, q0', hm, ?_, ST, ?_⟩
  · exact hcβ.sm ⟨by grind, Rat.le_refl⟩
  · have e1 : (c.sm (io * io)).sub ((cP x y z g.d).sub (((p.sm io).sub (Pt x y z)).cr (eW3 g.d))) = (c.sub (r.cr s)).sm (io * io) := by
      have e2 : (cP x y z g.d).sub (((p.sm io).sub (Pt x y z)).cr (eW3 g.d)) = (r.cr s).sm (io * io) := by
        have e3 : (r.cr s).sm (io * io) = (r.sm io).cr (s.sm io) := by apply R3.ext' <;> (unfold R3.cr R3.sm; grind)
        rw [e3, r2, s2, cP_is hd, ← eW3_is hd]
        generalize p.sm io = w
        generalize Pt x y z = v
        apply R3.ext' <;> (unfold R3.cr R3.sub; grind)
      rw [e2]
      apply R3.ext' <;> (unfold R3.sm R3.sub; grind)
    rw [e1]
    refine (hc.sm (K := io * io) ⟨by decide +kernel, Rat.le_refl⟩).mono ?_
    obtain ⟨_, d⟩ := div_rat (g.hA * g.hB) 2940000 (by decide)
    have c1 : ((2940000 : Nat) : Rat) = 2940000 := rfl
    rw [c1, Rat.natCast_mul] at d
    rw [Rat.natCast_add, c1n]
    have k1 := Rat.mul_le_mul_of_nonneg_right X2 (show 0 ≤ io * Y by rw [eio]; grind)
    have k2 := Rat.mul_le_mul_of_nonneg_left Y2 hA0
    rw [hu]
    grind
  · rw [Rat.natCast_mul, Rat.natCast_mul, Rat.natCast_mul, c520, c2n]
    have e1 : q * β * (KQ / io) = q * κ * (io * io * β) := by rw [← hκ2]; grind
    rw [e1]
    have k1 : 1502 / 100 * u24 * (io * io * β) ≤ 520 * (g.hA : Rat) := by
      have h1 : io * io * β = io * X * ((1 + 4 * u24) * 555900000 + 57 / 10 * u24 * (io * Y)) := by rw [hβ, eio]; grind
      rw [h1]
      have h2 : 1502 / 100 * u24 * ((1 + 4 * u24) * 555900000 + 57 / 10 * u24 * (io * Y)) ≤ 520 := by rw [hu, eio]; grind
      have h3 := Rat.mul_le_mul_of_nonneg_left h2 (show 0 ≤ io * X by rw [eio]; grind)
      grind
    have k2 := Rat.mul_le_mul_of_nonneg_left k1 q0'
    have k3 := Rat.mul_le_mul_of_nonneg_right hi (show 0 ≤ 520 * (g.hA : Rat) by grind)
    grind
end
end Go.Proofs.Ytfkblhlkeglilaa

namespace Go.Proofs.Ytfkblhlkeglilaa
open Go.RowKit R3 Mt
set_option maxRecDepth 20000
attribute [local irreducible] D9 D7 UU WW W9
theorem skol {α : Type} (d : α) {n : Nat} {R : Nat → α → Prop} (h : ∀ k, k < n → ∃ a, R k a) : ∃ f : Nat → α, ∀ k, k < n → R k (f k) := by
  classical
  refine ⟨fun k => if hk : k < n then (h k hk).choose else d, fun k hk => ?_⟩
  simp only [dif_pos hk]
  exact (h k hk).choose_spec
/-- A list with the places of its elements. -/
def ssOf (φ : Nat → Gh → Sg) : Nat → List Gh → List Sg
  | _, [] => []
  | n, g :: gs => φ n g :: ssOf φ (n + 1) gs
section
variable {φ : Nat → Gh → Sg}
theorem ssOf_mem (d : Gh) : ∀ (n : Nat) (gs : List Gh) (s : Sg), s ∈ ssOf φ n gs → ∃ k, k < gs.length ∧ s = φ (n + k) (gs.getD k d)
  | _, [], s, h => by cases h
  | n, g :: gs, s, h => by
    rcases List.mem_cons.1 h with h | h
    · exact ⟨0, by simp, by rw [h]; rfl⟩
    · obtain ⟨k, h1, h2⟩ := ssOf_mem d (n + 1) gs s h
      exact ⟨k + 1, by simp only [List.length_cons]; omega, by rw [h2, show n + 1 + k = n + (k + 1) by omega]; rfl⟩
theorem su_ss {f : Sg → Rat} {h : Gh → Nat} : ∀ (n : Nat) (gs : List Gh), (∀ k g, g ∈ gs → f (φ k g) = (h g : Rat)) → su f (ssOf φ n gs) = ((sN h gs : Nat) : Rat)
  | _, [], _ => rfl
  | n, g :: gs, H => by
    show f (φ n g) + su f (ssOf φ (n + 1) gs) = ((h g + sN h gs : Nat) : Rat)
    rw [Rat.natCast_add, H n g List.mem_cons_self, su_ss (n + 1) gs fun k g hg => H k g (List.mem_cons_of_mem _ hg)]
theorem su_ss2 {f : Sg → Rat} {h h' : Gh → Nat} : ∀ (n : Nat) (gs : List Gh), (∀ k g, g ∈ gs → f (φ k g) = (h g : Rat) - (h' g : Rat)) → su f (ssOf φ n gs) = ((sN h gs : Nat) : Rat) - ((sN h' gs : Nat) : Rat)
  | _, [], _ => by
    show (0 : Rat) = ((0 : Nat) : Rat) - ((0 : Nat) : Rat)
    decide +kernel
  | n, g :: gs, H => by
    show f (φ n g) + su f (ssOf φ (n + 1) gs) = ((h g + sN h gs : Nat) : Rat) - ((h' g + sN h' gs : Nat) : Rat)
    rw [Rat.natCast_add, Rat.natCast_add, H n g List.mem_cons_self, su_ss2 (n + 1) gs fun k g hg => H k g (List.mem_cons_of_mem _ hg)]
    grind
theorem su_le {f : Sg → Rat} {h : Gh → Nat} : ∀ (n : Nat) (gs : List Gh), (∀ k g, g ∈ gs → f (φ k g) ≤ (h g : Rat)) → su f (ssOf φ n gs) ≤ ((sN h gs : Nat) : Rat)
  | _, [], _ => Rat.le_refl
  | n, g :: gs, H => by
    show f (φ n g) + su f (ssOf φ (n + 1) gs) ≤ ((h g + sN h gs : Nat) : Rat)
    rw [Rat.natCast_add]
    have h1 := H n g List.mem_cons_self
    have h2 := su_le (n + 1) gs fun k g hg => H k g (List.mem_cons_of_mem _ hg)
    grind
end
theorem su_mul (k : Rat) (f : Sg → Rat) : ∀ l : List Sg, su (fun s => k * f s) l = k * su f l
  | [] => by show (0 : Rat) = k * 0; grind
  | s :: l => by
    show k * f s + su (fun s => k * f s) l = k * (f s + su f l)
    rw [su_mul k f l]; grind
theorem sv_x (f : Sg → R3) : ∀ l : List Sg, (sv f l).x = su (fun s => (f s).x) l
  | [] => rfl
  | s :: l => by show (f s).x + (sv f l).x = _; rw [sv_x f l]; rfl
theorem sv_y (f : Sg → R3) : ∀ l : List Sg, (sv f l).y = su (fun s => (f s).y) l
  | [] => rfl
  | s :: l => by show (f s).y + (sv f l).y = _; rw [sv_y f l]; rfl
theorem sv_z (f : Sg → R3) : ∀ l : List Sg, (sv f l).z = su (fun s => (f s).z) l
  | [] => rfl
  | s :: l => by show (f s).z + (sv f l).z = _; rw [sv_z f l]; rfl
theorem SumV_shift (T : Nat → R3) : ∀ n : Nat, SumV T (n + 1) = (T 0).add (SumV (fun k => T (k + 1)) n)
  | 0 => by
    show R3.zero.add (T 0) = (T 0).add R3.zero
    apply R3.ext' <;> (unfold R3.add R3.zero; grind)
  | n + 1 => by
    show (SumV T (n + 1)).add (T (n + 1)) = (T 0).add ((SumV (fun k => T (k + 1)) n).add (T (n + 1)))
    rw [SumV_shift T n]
    apply R3.ext' <;> (unfold R3.add; grind)
theorem SumV_cong {T T' : Nat → R3} : ∀ n : Nat, (∀ k, k < n → T k = T' k) → SumV T n = SumV T' n
  | 0, _ => rfl
  | n + 1, h => by
    show (SumV T n).add (T n) = (SumV T' n).add (T' n)
    rw [SumV_cong n fun k hk => h k (by omega), h n (by omega)]
/-- The sum over the list is the sum over the places. -/
theorem sv_ss {φ : Nat → Gh → Sg} {f : Sg → R3} {T : Nat → R3} {lam : Rat} : ∀ (n : Nat) (gs : List Gh), (∀ k g, k < n + gs.length → f (φ k g) = (T k).sm lam) → sv f (ssOf φ n gs) = (SumV (fun k => T (n + k)) gs.length).sm lam
  | n, [], _ => by
    show R3.zero = R3.zero.sm lam
    apply R3.ext' <;> (unfold R3.sm R3.zero; grind)
  | n, g :: gs, h => by
    show (f (φ n g)).add (sv f (ssOf φ (n + 1) gs)) = (SumV (fun k => T (n + k)) (gs.length + 1)).sm lam
    have ih := sv_ss (T := T) (n + 1) gs fun k g' hk => h k g' (by simp only [List.length_cons]; omega)
    have e : SumV (fun k => T (n + 1 + k)) gs.length = SumV (fun k => T (n + (k + 1))) gs.length := SumV_cong _ fun k _ => by rw [show n + 1 + k = n + (k + 1) by omega]
    rw [SumV_shift, ih, h n g (by simp only [List.length_cons]; omega), e]
    apply R3.ext' <;> (unfold R3.sm R3.add; grind)
/-- Sums of numbers that are not less. -/
theorem SumR_le {h : Gh → Nat} {c : Rat} (d : Gh) : ∀ (gs : List Gh) (b : Nat → Rat), (∀ k, k < gs.length → c * b k ≤ (h (gs.getD k d) : Rat)) → c * SumR b gs.length ≤ ((sN h gs : Nat) : Rat)
  | [], b, _ => by show c * 0 ≤ ((0 : Nat) : Rat); have : ((0 : Nat) : Rat) = 0 := rfl; rw [this]; grind
  | g :: gs, b, H => by
    have sh : ∀ (b : Nat → Rat) (n : Nat), SumR b (n + 1) = b 0 + SumR (fun k => b (k + 1)) n := by
      intro b n
      induction n with
      | zero => show 0 + b 0 = b 0 + 0; grind
      | succ n ih => show SumR b (n + 1) + b (n + 1) = b 0 + (SumR (fun k => b (k + 1)) n + b (n + 1)); rw [ih]; grind
    show c * SumR b (gs.length + 1) ≤ ((h g + sN h gs : Nat) : Rat)
    rw [sh, Rat.natCast_add]
    have h1 := H 0 (by simp)
    have h2 := SumR_le (c := c) (h := h) d gs (fun k => b (k + 1)) fun k hk => H (k + 1) (by simp only [List.length_cons]; omega)
    have e1 : (g :: gs).getD 0 d = g := rfl
    rw [e1] at h1
    grind
theorem tdiv_near {a u : Int} {N : Nat} (hN : 1 ≤ N) (h : u = (a * 1073741824).tdiv N) : Rg ((a : Rat) - (u : Rat) * (1 / io) * N) (N * (1 / io)) := by
  have hN0 : (0 : Int) < (N : Int) := by omega
  have h1 := Int.mul_tdiv_add_tmod (a * 1073741824) (N : Int)
  have h2 := Int.tmod_lt_of_pos (a * 1073741824) hN0
  have h3 := Int.lt_tmod_of_pos (a * 1073741824) hN0
  rw [← h] at h1
  generalize (a * 1073741824).tmod (N : Int) = m at *
  have e1 : (((N : Int) * u + m : Int) : Rat) = ((a * 1073741824 : Int) : Rat) := congrArg (fun z : Int => (z : Rat)) h1
  rw [Rat.intCast_add, Rat.intCast_mul, Rat.intCast_mul] at e1
  have e2 : ((N : Int) : Rat) = (N : Rat) := rfl
  have e3 : ((1073741824 : Int) : Rat) = 1073741824 := rfl
  rw [e2, e3] at e1
  have r2 := Rat.intCast_le_intCast.2 (Int.le_of_lt h2)
  have r3 := Rat.intCast_le_intCast.2 (Int.le_of_lt h3)
  rw [Rat.intCast_neg, e2] at r3
  rw [e2] at r2
  have ei : 1 / io = 1 / 1073741824 := rfl
  rw [ei]
  constructor <;> grind
end Go.Proofs.Ytfkblhlkeglilaa

namespace Go.Proofs.Ytfkblhlkeglilaa
open Go.RowKit R3 Mt
set_option maxRecDepth 20000
attribute [local irreducible] D9 D7 UU WW W9
def e00 : Ed := ⟨0, 0, 0, 0, 0, 0, 0, 0⟩
def g00 : Gh := ⟨e00, 0, 0, 0, 0, 0, 0⟩
/-- The ring of twelve points. -/
structure Ring12 (L : List V3) : Prop where
  n : L.length = 12
  vA : ∀ k, k < 12 → qv3 (segA (L, true, 1065353216) k) ((cA (eds.getD k e00)).x * (1 / io)) ((cA (eds.getD k e00)).y * (1 / io)) ((cA (eds.getD k e00)).z * (1 / io))
  vB : ∀ k, k < 12 → qv3 (segB (L, true, 1065353216) k) ((cB (eds.getD k e00)).x * (1 / io)) ((cB (eds.getD k e00)).y * (1 / io)) ((cB (eds.getD k e00)).z * (1 / io))
structure Ou where
  q : Rat
  c : R3
  T : R3
  f : R3
  β : Rat
def lam : Rat := KQ / io
theorem lam_pos : 0 < lam := by decide +kernel
/-- An edge as a part of a sum. -/
def sgO (x y z u v t : Int) (o : Nat → Ou) (k : Nat) (g : Gh) : Sg where
  c := cP x y z g.d
  E := eW3 g.d
  m := ((g.ql + g.qh : Nat) : Rat)
  w := ((g.qh - g.ql : Nat) : Rat)
  p := ((ppI z (dtO x y g) (cuI z u v t (dtO x y g)) : Nat) : Rat)
  cu := ((cuI z u v t (dtO x y g) + 1 : Nat) : Rat)
  hh := ((g.hA + g.hB : Nat) : Rat)
  ka := ((g.hA * g.hB / 2940000 + 1 : Nat) : Rat)
  q := (o k).q
  c' := (o k).c
def Uo (u v t : Int) : R3 := ⟨(u : Rat) * (1 / io), (v : Rat) * (1 / io), (t : Rat) * (1 / io)⟩
section
variable {x y z u v t : Int} {e : Nat} {g : Gh}
theorem U_near (h : near1 (sqI u + sqI v + sqI t) = true) : Rg ((Uo u v t).dot (Uo u v t) - 1) (1 / 16777216 / 16) := by
  obtain ⟨h1, h2⟩ := and_is h
  have r1 := nbr (ble_is h1)
  have r2 := nbr (ble_is h2)
  rw [Rat.natCast_add, Rat.natCast_add, sqI_rat, sqI_rat, sqI_rat] at r1 r2
  have c1 : ((1152921500311879680 : Nat) : Rat) = 1152921500311879680 := rfl
  have c2 : ((1152921508901814272 : Nat) : Rat) = 1152921508901814272 := rfl
  rw [c1] at r1
  rw [c2] at r2
  have ei : 1 / io = 1 / 1073741824 := rfl
  have e1 : (Uo u v t).dot (Uo u v t) = ((u : Rat) * u + (v : Rat) * v + (t : Rat) * t) * (1 / 1073741824 * (1 / 1073741824)) := by
    unfold Uo R3.dot
    rw [ei]; grind
  rw [e1]
  constructor <;> grind
/-- What the middle's product is along the direction. -/
theorem cu_real : Rg ((cP x y z g.d).dot (Uo u v t)) ((cuI z u v t (dtO x y g) + 1 : Nat) : Rat) ∧ ((cuI z u v t (dtO x y g) : Nat) : Rat) * ((cuI z u v t (dtO x y g) : Nat) : Rat) ≤ (cP x y z g.d).dot (Uo u v t) * (cP x y z g.d).dot (Uo u v t) := by
  obtain ⟨J, hJ⟩ : ∃ J : Int, J = z * (g.d.ey * u - g.d.ex * v) + kaI x y g.d * t := ⟨_, rfl⟩
  have e0 : cuI z u v t (dtO x y g) = J.natAbs / 1073741824 := by rw [hJ]; rfl
  obtain ⟨d1, d2⟩ := div_rat J.natAbs 1073741824 (by decide)
  have c1 : ((1073741824 : Nat) : Rat) = 1073741824 := rfl
  rw [← e0, c1] at d1 d2
  have ei : 1 / io = 1 / 1073741824 := rfl
  have e1 : (cP x y z g.d).dot (Uo u v t) * 1073741824 = (J : Rat) := by
    rw [hJ, Rat.intCast_add, Rat.intCast_mul, Rat.intCast_mul, Rat.intCast_sub, Rat.intCast_mul, Rat.intCast_mul]
    unfold cP Uo R3.dot
    rw [ei]; grind
  have hn : ((J.natAbs : Nat) : Rat) = ab (J : Rat) := by
    have := ab_castW J (v := (J : Rat)) (W := 1) (by decide) (by rw [Rat.mul_one])
    rw [Rat.mul_one] at this
    exact this
  rw [hn, ← e1] at d1 d2
  rw [Rat.natCast_add, c1n]
  generalize (cP x y z g.d).dot (Uo u v t) = s at *
  have f0 : (0 : Rat) ≤ ((cuI z u v t (dtO x y g) : Nat) : Rat) := Rat.natCast_nonneg
  generalize ((cuI z u v t (dtO x y g) : Nat) : Rat) = c at *
  rcases ab_of (s * 1073741824) with ⟨a1, a2⟩ | ⟨a1, a2⟩
  · rw [a1] at d1 d2
    have h1 : c ≤ s := by grind
    exact ⟨⟨by grind, by grind⟩, rsq_mono f0 h1⟩
  · rw [a1] at d1 d2
    have h1 : c ≤ -s := by grind
    have := rsq_mono f0 h1
    exact ⟨⟨by grind, by grind⟩, by grind⟩
theorem pp_real (hd : EdOk g.d) (hU : Rg ((Uo u v t).dot (Uo u v t) - 1) (1 / 16777216 / 16)) : (pj (Uo u v t) (cP x y z g.d)).dot (pj (Uo u v t) (cP x y z g.d)) ≤ ((ppI z (dtO x y g) (cuI z u v t (dtO x y g)) : Nat) : Rat) := by
  obtain ⟨c1, c2⟩ := cu_real (x := x) (y := y) (z := z) (u := u) (v := v) (t := t) (g := g)
  obtain ⟨c, hc⟩ : ∃ c, c = cuI z u v t (dtO x y g) := ⟨_, rfl⟩
  rw [← hc] at c1 c2 ⊢
  have hcc : (cP x y z g.d).dot (cP x y z g.d) = (z : Rat) * z * (g.d.L2 : Rat) + (kaI x y g.d : Rat) * (kaI x y g.d : Rat) := by
    rw [← eW3_sq hd]
    unfold cP eW3 R3.dot; grind
  have e0 : ppI z (dtO x y g) c = sqI z * g.d.L2 + sqI (kaI x y g.d) + (c + 1) * (c + 1) / 16777216 + 1 - c * c := rfl
  have hsub : ((sqI z * g.d.L2 + sqI (kaI x y g.d) + (c + 1) * (c + 1) / 16777216 + 1 : Nat) : Rat) - ((c * c : Nat) : Rat) ≤ ((ppI z (dtO x y g) c : Nat) : Rat) := by
    have h1 : sqI z * g.d.L2 + sqI (kaI x y g.d) + (c + 1) * (c + 1) / 16777216 + 1 ≤ ppI z (dtO x y g) c + c * c := by rw [e0]; omega
    have := nbr h1
    rw [Rat.natCast_add] at this
    grind
  refine Rat.le_trans ?_ hsub
  obtain ⟨_, d⟩ := div_rat ((c + 1) * (c + 1)) 16777216 (by decide)
  have c16 : ((16777216 : Nat) : Rat) = 16777216 := rfl
  rw [c16] at d
  simp only [Rat.natCast_add, Rat.natCast_mul, c1n, sqI_rat] at d c1 ⊢
  rw [pj_dot, hcc]
  obtain ⟨s, hs⟩ : ∃ s, s = (cP x y z g.d).dot (Uo u v t) := ⟨_, rfl⟩
  rw [← hs] at c1 c2 ⊢
  have k := (rmul c1 c1).2
  have k2 := rmul hU (show Rg (s * s) (((c : Rat) + 1) * ((c : Rat) + 1)) from ⟨by have := sq_nn s; have := sq_nn ((c : Rat) + 1); grind, k⟩)
  obtain ⟨_, k3⟩ := k2
  generalize (((c + 1) * (c + 1) / 16777216 : Nat) : Rat) = fl at *
  generalize (Uo u v t).dot (Uo u v t) = UU' at *
  generalize (z : Rat) * z * (g.d.L2 : Rat) + (kaI x y g.d : Rat) * (kaI x y g.d : Rat) = C at *
  have cc0 := sq_nn ((c : Rat) + 1)
  generalize ((c : Rat) + 1) * ((c : Rat) + 1) = M at *
  generalize (c : Rat) * c = N at *
  have e5 : s * s * (2 - UU') = s * s - (UU' - 1) * (s * s) := by grind
  rw [e5]
  grind
end
end Go.Proofs.Ytfkblhlkeglilaa

namespace Go.Proofs.Ytfkblhlkeglilaa
open Go.RowKit R3 Mt
set_option maxRecDepth 20000
attribute [local irreducible] D9 D7 UU WW W9 segF
section
variable {x y z u v t W1 W2 F3 : Int} {e SA SB Sw NC KT N0 B S TT NN : Nat} {gs : List Gh} {L : List V3} {P : V3} {p : R3}
theorem kl_int (m : Nat) (k : Int) : ((m : Nat) : Rat) * (k : Rat) = ((m * k.toNat : Nat) : Rat) - ((m * (-k).toNat : Nat) : Rat) := by
  have h := Int.toNat_sub_toNat_neg k
  have h2 := congrArg (fun z : Int => (z : Rat)) h
  simp only [Rat.intCast_sub] at h2
  have e1 : ((k.toNat : Int) : Rat) = ((k.toNat : Nat) : Rat) := rfl
  have e2 : (((-k).toNat : Int) : Rat) = (((-k).toNat : Nat) : Rat) := rfl
  rw [e1, e2] at h2
  rw [Rat.natCast_mul, Rat.natCast_mul, ← h2]; grind
theorem sub_rat {a b : Nat} : (((a : Int) - (b : Int) : Int) : Rat) = (a : Rat) - (b : Rat) := by rw [Rat.intCast_sub]; rfl
/-- The sums over the list are the sums that were computed. -/
structure Sms (x y z u v t W1 W2 F3 : Int) (SA SB Sw NC KT : Nat) (gs : List Gh) (o : Nat → Ou) : Prop where
  E : sv (fun s => s.E.sm s.m) (ssOf (sgO x y z u v t o) 0 gs) = ⟨(W1 : Rat), (W2 : Rat), 0⟩
  c : sv (fun s => s.c.sm s.m) (ssOf (sgO x y z u v t o) 0 gs) = ⟨(z : Rat) * W2, -((z : Rat) * W1), (F3 : Rat)⟩
  SA : su (fun s => s.w * s.hh) (ssOf (sgO x y z u v t o) 0 gs) = (SA : Rat)
  SB : su (fun s => s.w / s.hh * s.p) (ssOf (sgO x y z u v t o) 0 gs) ≤ (SB : Rat)
  Sw : su (fun s => s.w) (ssOf (sgO x y z u v t o) 0 gs) = (Sw : Rat)
  NC : su (fun s => s.w * s.cu) (ssOf (sgO x y z u v t o) 0 gs) = (NC : Rat)
  KT : su (fun s => (s.m + s.w) * s.ka) (ssOf (sgO x y z u v t o) 0 gs) + ((sN (fun g => 2 * g.qh * (520 * g.hA)) gs : Nat) : Rat) = (KT : Rat)
theorem sms_of (F : Fi x y z e gs W1 W2 F3 u v t SA SB Sw NC KT N0 B S TT NN) (o : Nat → Ou) : Sms x y z u v t W1 W2 F3 SA SB Sw NC KT gs o := by
  have hE1 : su (fun s => s.m * s.E.x) (ssOf (sgO x y z u v t o) 0 gs) = (W1 : Rat) := by
    rw [F.hW1, sub_rat]
    exact su_ss2 0 gs fun k g _ => kl_int (g.ql + g.qh) g.d.ex
  have hE2 : su (fun s => s.m * s.E.y) (ssOf (sgO x y z u v t o) 0 gs) = (W2 : Rat) := by
    rw [F.hW2, sub_rat]
    exact su_ss2 0 gs fun k g _ => kl_int (g.ql + g.qh) g.d.ey
  have hE3 : su (fun s => s.m * s.E.z) (ssOf (sgO x y z u v t o) 0 gs) = 0 := by
    have := su_ss (φ := sgO x y z u v t o) (f := fun s => s.m * s.E.z) (h := fun _ => 0) 0 gs fun k g _ => by
      show ((g.ql + g.qh : Nat) : Rat) * 0 = ((0 : Nat) : Rat)
      rw [Rat.mul_zero]; rfl
    rw [this]
    have : ∀ l : List Gh, sN (fun _ => 0) l = 0 := by
      intro l; induction l with
      | nil => rfl
      | cons a l ih => show 0 + sN (fun _ => 0) l = 0; rw [ih]
    rw [this]; rfl
  have hc3 : su (fun s => s.m * s.c.z) (ssOf (sgO x y z u v t o) 0 gs) = (F3 : Rat) := by
    rw [F.hF3, sub_rat]
    exact su_ss2 0 gs fun k g _ => kl_int (g.ql + g.qh) (kaI x y g.d)
  -- the first two numbers of the products are those of the ways
  have hcE : ∀ (n : Nat) (gs : List Gh), su (fun s => s.m * s.c.x) (ssOf (sgO x y z u v t o) n gs) = (z : Rat) * su (fun s => s.m * s.E.y) (ssOf (sgO x y z u v t o) n gs) ∧ su (fun s => s.m * s.c.y) (ssOf (sgO x y z u v t o) n gs) = -((z : Rat) * su (fun s => s.m * s.E.x) (ssOf (sgO x y z u v t o) n gs)) := by
    intro n gs
    induction gs generalizing n with
    | nil => exact ⟨by show (0 : Rat) = (z : Rat) * 0; grind, by show (0 : Rat) = -((z : Rat) * 0); grind⟩
    | cons g gs ih =>
      obtain ⟨i1, i2⟩ := ih (n + 1)
      constructor
      · show ((g.ql + g.qh : Nat) : Rat) * ((z : Rat) * g.d.ey) + su (fun s => s.m * s.c.x) (ssOf (sgO x y z u v t o) (n + 1) gs) = (z : Rat) * (((g.ql + g.qh : Nat) : Rat) * (g.d.ey : Rat) + su (fun s => s.m * s.E.y) (ssOf (sgO x y z u v t o) (n + 1) gs))
        rw [i1]; grind
      · show ((g.ql + g.qh : Nat) : Rat) * (-((z : Rat) * g.d.ex)) + su (fun s => s.m * s.c.y) (ssOf (sgO x y z u v t o) (n + 1) gs) = -((z : Rat) * (((g.ql + g.qh : Nat) : Rat) * (g.d.ex : Rat) + su (fun s => s.m * s.E.x) (ssOf (sgO x y z u v t o) (n + 1) gs)))
        rw [i2]; grind
  refine ⟨?_, ?_, ?_, ?_, ?_, ?_, ?_⟩
  · apply R3.ext'
    · rw [sv_x]; exact hE1
    · rw [sv_y]; exact hE2
    · rw [sv_z]; exact hE3
  · apply R3.ext'
    · rw [sv_x]; rw [← hE2]; exact (hcE 0 gs).1
    · rw [sv_y]; rw [← hE1]; exact (hcE 0 gs).2
    · rw [sv_z]; exact hc3
  · rw [F.hSA]
    exact su_ss 0 gs fun k g _ => by
      show ((g.qh - g.ql : Nat) : Rat) * ((g.hA + g.hB : Nat) : Rat) = _
      rw [← Rat.natCast_mul]
  · rw [F.hSB]
    refine su_le 0 gs fun k g hg => ?_
    show ((g.qh - g.ql : Nat) : Rat) / ((g.hA + g.hB : Nat) : Rat) * ((ppI z (dtO x y g) (cuI z u v t (dtO x y g)) : Nat) : Rat) ≤ (((g.qh - g.ql) * ppI z (dtO x y g) (cuI z u v t (dtO x y g)) / (g.hA + g.hB) + 1 : Nat) : Rat)
    have G := F.ok g hg
    have hl : g.lA ≤ g.hA := by
      obtain ⟨s, _, _, h1, h2⟩ := G.vA.ex
      have e1 : g.hA = s + 1 + e + (s + 1 + e) / 4700000 + 1 := h1
      have e2 : g.lA = s - e - (s - e) / 4700000 - 1 := h2
      omega
    have h0 : 0 < g.hA + g.hB := by have := G.vA.l0; omega
    obtain ⟨_, d⟩ := div_rat ((g.qh - g.ql) * ppI z (dtO x y g) (cuI z u v t (dtO x y g))) (g.hA + g.hB) h0
    have r0 : (0 : Rat) < ((g.hA + g.hB : Nat) : Rat) := Rat.natCast_lt_natCast.2 h0
    rw [Rat.natCast_mul] at d
    rw [Rat.natCast_add ((g.qh - g.ql) * _ / _) 1, c1n]
    generalize (((g.qh - g.ql) * ppI z (dtO x y g) (cuI z u v t (dtO x y g)) / (g.hA + g.hB) : Nat) : Rat) = fl at *
    generalize ((g.hA + g.hB : Nat) : Rat) = h at *
    generalize ((g.qh - g.ql : Nat) : Rat) = w at *
    generalize ((ppI z (dtO x y g) (cuI z u v t (dtO x y g)) : Nat) : Rat) = pp at *
    refine Rat.le_of_mul_le_mul_right (c := h) ?_ r0
    have e9 : w / h * pp * h = w / h * h * pp := by grind
    rw [e9, Rat.div_mul_cancel (by intro h9; rw [h9] at r0; exact absurd r0 (by decide))]
    exact Rat.le_of_lt d
  · rw [F.hSw]; exact su_ss 0 gs fun k g _ => rfl
  · rw [F.hNC]
    exact su_ss 0 gs fun k g _ => by
      show ((g.qh - g.ql : Nat) : Rat) * ((cuI z u v t (dtO x y g) + 1 : Nat) : Rat) = _
      rw [← Rat.natCast_mul]
  · have h1 : su (fun s => (s.m + s.w) * s.ka) (ssOf (sgO x y z u v t o) 0 gs) = ((sN (fun g => 2 * g.qh * (g.hA * g.hB / 2940000 + 1)) gs : Nat) : Rat) := su_ss 0 gs fun k g hg => by
      show (((g.ql + g.qh : Nat) : Rat) + ((g.qh - g.ql : Nat) : Rat)) * ((g.hA * g.hB / 2940000 + 1 : Nat) : Rat) = _
      have := (F.ok g hg).lh
      rw [← Rat.natCast_add, ← Rat.natCast_mul]
      rw [show g.ql + g.qh + (g.qh - g.ql) = 2 * g.qh by omega]
    rw [h1, ← Rat.natCast_add, F.hKT]
    congr 1
    have : ∀ l : List Gh, sN (fun g => 2 * g.qh * (g.hA * g.hB / 2940000 + 1)) l + sN (fun g => 2 * g.qh * (520 * g.hA)) l = sN (fun g => 2 * g.qh * kx g.hA g.hB) l := by
      intro l; induction l with
      | nil => rfl
      | cons a l ih =>
        show 2 * a.qh * (a.hA * a.hB / 2940000 + 1) + sN (fun g => 2 * g.qh * (g.hA * g.hB / 2940000 + 1)) l + (2 * a.qh * (520 * a.hA) + sN (fun g => 2 * g.qh * (520 * g.hA)) l) = 2 * a.qh * kx a.hA a.hB + sN (fun g => 2 * g.qh * kx g.hA g.hB) l
        rw [← ih]
        have e1 : kx a.hA a.hB = a.hA * a.hB / 2940000 + 1 + 520 * a.hA := rfl
        rw [e1]
        generalize a.hA * a.hB / 2940000 + 1 = c
        generalize 520 * a.hA = d
        generalize 2 * a.qh = q
        rw [Nat.mul_add]
        generalize q * c = qc
        generalize q * d = qd
        omega
    exact this gs
/-- The field of the ring near the place: along the direction, and across it. -/
theorem ring_field (hL : Ring12 L) (F : Fi x y z e gs W1 W2 F3 u v t SA SB Sw NC KT N0 B S TT NN) (hP : qv3 P p.x p.y p.z) (hp : nb ((p.sm io).sub (Pt x y z)) (e : Rat)) :
    ∃ f : R3, qv3 (fieldI [(L, true, 1065353216)] P) f.x f.y f.z ∧ nb (pj (Uo u v t) (f.sm lam)) (TT : Rat) ∧ (NN : Rat) ≤ (f.sm lam).dot (Uo u v t) ∧ nb f 600 := by
  have hlen : gs.length = 12 := by
    have := congrArg List.length F.ds
    rw [List.length_map] at this
    exact this
  have hgd : ∀ k, k < 12 → gs.getD k g00 ∈ gs ∧ (gs.getD k g00).d = eds.getD k e00 := by
    intro k hk
    have e1 : gs.getD k g00 = gs[k]'(by omega) := by rw [List.getD_eq_getElem?_getD, List.getElem?_eq_getElem (by omega), Option.getD_some]
    refine ⟨by rw [e1]; exact List.getElem_mem _, ?_⟩
    have e2 : (gs.map Gh.d).getD k e00 = (gs.getD k g00).d := by
      rw [e1, List.getD_eq_getElem?_getD, List.getElem?_map, List.getElem?_eq_getElem (by omega)]; rfl
    rw [← e2, F.ds]
  have hedm : ∀ k, k < 12 → EdOk (gs.getD k g00).d := by
    intro k hk
    refine eds_ok _ ?_
    rw [← F.ds]
    exact List.mem_map_of_mem (hgd k hk).1
  obtain ⟨o, ho⟩ := skol (α := Ou) (n := 12) ⟨0, R3.zero, R3.zero, R3.zero, 0⟩ (R := fun k a => qv3 (segF (segA (L, true, 1065353216) k) (segB (L, true, 1065353216) k) P) a.f.x a.f.y a.f.z ∧ Er x y z p (gs.getD k g00) a.q a.c a.T a.f a.β) (fun k hk => by
    obtain ⟨h1, h2⟩ := hgd k hk
    have hA := hL.vA k hk
    have hB := hL.vB k hk
    rw [← h2] at hA hB
    obtain ⟨q, c, T, f, β, r1, r2⟩ := edge_real (hedm k hk) (F.ok _ h1) hP hp hA hB
    exact ⟨⟨q, c, T, f, β⟩, r1, r2⟩)
  have hS := sms_of F o
  -- the errors of the sums
  have hBk : 1502 / 100 * u24 * lam * SumR (fun k => (o k).β) 12 ≤ ((sN (fun g => 2 * g.qh * (520 * g.hA)) gs : Nat) : Rat) := by
    have := SumR_le (h := fun g => 2 * g.qh * (520 * g.hA)) (c := 1502 / 100 * u24 * lam) g00 gs (fun k => (o k).β) (fun k hk => by
      have := (ho k (by omega)).2.β0
      have e1 : lam = KQ / io := rfl
      rw [← e1] at this
      show 1502 / 100 * u24 * lam * (o k).β ≤ _
      grind)
    rw [hlen] at this
    exact this
  obtain ⟨ER, hER⟩ : ∃ ER, ER = ((sN (fun g => 2 * g.qh * (520 * g.hA)) gs : Nat) : Rat) := ⟨_, rfl⟩
  have hKTr := hS.KT
  rw [← hER] at hBk hKTr
  have K25 := nbr F.K25
  have c25 : ((80000000000000000000000000 : Nat) : Rat) = 80000000000000000000000000 := rfl
  rw [c25] at K25
  have ka0 : 0 ≤ su (fun s => (s.m + s.w) * s.ka) (ssOf (sgO x y z u v t o) 0 gs) := by
    have := su_ss (φ := sgO x y z u v t o) (f := fun s => (s.m + s.w) * s.ka) (h := fun g => (g.ql + g.qh + (g.qh - g.ql)) * (g.hA * g.hB / 2940000 + 1)) 0 gs fun k g _ => by
      show (((g.ql + g.qh : Nat) : Rat) + ((g.qh - g.ql : Nat) : Rat)) * ((g.hA * g.hB / 2940000 + 1 : Nat) : Rat) = _
      rw [← Rat.natCast_add, ← Rat.natCast_mul]
    rw [this]; exact Rat.natCast_nonneg
  have hul : 1502 / 100 * u24 * lam = 1502 / 100 * (1 / 16777216) * 158456325028528675187087900672 := by decide +kernel
  have hB9 : SumR (fun k => (o k).β) 12 ≤ 570 := by rw [hul] at hBk; grind
  obtain ⟨f, f1, f2⟩ := ring_rel (T := fun k => (o k).T) (b := fun k => (o k).β) hL.n (fun k hk => ⟨(o k).f, (ho k hk).1, (ho k hk).2.fT, (ho k hk).2.Tβ⟩) (by grind)
  have hT9 := SumV_nb (T := fun k => (o k).T) (b := fun k => (o k).β) (n := 12) fun k hk => (ho k hk).2.Tβ
  have B0 := hT9.nn
  have hu : u24 = 1 / 16777216 := rfl
  have ht : tn ≤ 1 / 10000000000000000000000000000000 := by decide +kernel
  have hf6 : nb f 600 := (f2.from hT9).mono (by rw [hu]; grind)
  -- the sum, in units
  have hsv : sv (fun s => s.c'.sm s.q) (ssOf (sgO x y z u v t o) 0 gs) = (SumV (fun k => (o k).T) 12).sm lam := by
    have h1 : ∀ k, k < 12 → (o k).c.sm (o k).q = (o k).T.sm lam := fun k hk => (ho k hk).2.cT
    have := sv_ss (φ := sgO x y z u v t o) (f := fun s => s.c'.sm s.q) (T := fun k => (o k).T) (lam := lam) 0 gs (fun k g hk => h1 k (by omega))
    rw [this, hlen, SumV_cong 12 fun k _ => by rw [Nat.zero_add]]
  have hlam := lam_pos
  have herr : nb ((f.sub (SumV (fun k => (o k).T) 12)).sm lam) (ER + 1) := by
    refine (f2.sm (k := lam) (K := lam) ⟨by grind, Rat.le_refl⟩).mono ?_
    have h2 : lam * (1000 * tn) ≤ 1 := by decide +kernel
    grind
  have hFs : f.sm lam = (sv (fun s => s.c'.sm s.q) (ssOf (sgO x y z u v t o) 0 gs)).add ((f.sub (SumV (fun k => (o k).T) 12)).sm lam) := by
    rw [hsv]
    apply R3.ext' <;> (unfold R3.add R3.sub R3.sm; grind)
  -- what is known of the edges
  have hU := U_near F.hU
  have ok : ∀ s ∈ ssOf (sgO x y z u v t o) 0 gs, SgOk (Uo u v t) ((p.sm io).sub (Pt x y z)) 555900000 s := by
    intro s hs
    obtain ⟨k, hk, es⟩ := ssOf_mem g00 0 gs s hs
    rw [Nat.zero_add] at es
    have hk : k < 12 := by omega
    have R := (ho k hk).2
    have hd := hedm k hk
    have G := F.ok _ (hgd k hk).1
    rw [es]
    refine ⟨Rat.natCast_nonneg, R.q0, R.hq, eW3_nb hd, R.hc, pp_real hd hU, (cu_real).1, ?_⟩
    have h0 : 0 < (gs.getD k g00).hA + (gs.getD k g00).hB := by
      obtain ⟨s, _, _, h1, _⟩ := G.vA.ex
      have e1 : (gs.getD k g00).hA = s + 1 + e + (s + 1 + e) / 4700000 + 1 := h1
      omega
    exact Rat.natCast_lt_natCast.2 h0
  -- the middle
  have N1 := F.N1
  have hn0 : (0 : Rat) ≤ (N0 : Rat) := Rat.natCast_nonneg
  have hio : 1 / io = 1 / 1073741824 := rfl
  have M : Mid (ssOf (sgO x y z u v t o) 0 gs) (Uo u v t) 555900000 (e : Rat) (ER + 1) (1 / 16777216) (N0 : Rat) (2 * ((N0 : Rat) * (1 / io))) (S : Rat) (B : Rat) := by
    refine ⟨hU, by decide +kernel, ?_, Rat.natCast_nonneg, ?_, ?_, hn0⟩
    · rw [hS.SA]
      have h1 := Rat.mul_le_mul_of_nonneg_left hS.SB (show (0 : Rat) ≤ (SA : Rat) from Rat.natCast_nonneg)
      have h2 := nbr F.hS
      rw [Rat.natCast_mul, Rat.natCast_mul] at h2
      exact Rat.le_trans h1 h2
    · rw [hS.E]
      refine ⟨Rat.natCast_nonneg, ?_⟩
      have h2 := nbr F.hB
      rw [Rat.natCast_mul, Rat.natCast_add, sqI_rat, sqI_rat] at h2
      show (W1 : Rat) * W1 + (W2 : Rat) * W2 + 0 * 0 ≤ _
      grind
    · rw [hS.c]
      have t1 := tdiv_near N1 F.hu
      have t2 := tdiv_near N1 F.hv
      have t3 := tdiv_near N1 F.ht
      rw [Rat.intCast_mul] at t1
      rw [Rat.intCast_neg, Rat.intCast_mul] at t2
      obtain ⟨η, hη⟩ : ∃ η, η = (N0 : Rat) * (1 / io) := ⟨_, rfl⟩
      rw [← hη] at t1 t2 t3 ⊢
      have q1 := (rmul t1 t1).2
      have q2 := (rmul t2 t2).2
      have q3 := (rmul t3 t3).2
      have η0 : 0 ≤ η := by rw [hη, hio]; grind
      have ηη := Rat.mul_nonneg η0 η0
      refine ⟨by grind, ?_⟩
      have e1 : (R3.sub ⟨(z : Rat) * W2, -((z : Rat) * W1), (F3 : Rat)⟩ ((Uo u v t).sm (N0 : Rat))) = ⟨(z : Rat) * W2 - (u : Rat) * (1 / io) * N0, -((z : Rat) * W1) - (v : Rat) * (1 / io) * N0, (F3 : Rat) - (t : Rat) * (1 / io) * N0⟩ := by
        apply R3.ext' <;> (unfold R3.sub R3.sm Uo; grind)
      rw [e1]
      show ((z : Rat) * W2 - (u : Rat) * (1 / io) * N0) * ((z : Rat) * W2 - (u : Rat) * (1 / io) * N0) + (-((z : Rat) * W1) - (v : Rat) * (1 / io) * N0) * (-((z : Rat) * W1) - (v : Rat) * (1 / io) * N0) + ((F3 : Rat) - (t : Rat) * (1 / io) * N0) * ((F3 : Rat) - (t : Rat) * (1 / io) * N0) ≤ 2 * η * (2 * η)
      grind
  obtain ⟨b1, b2⟩ := ball ok hp hFs herr M
  -- in whole numbers
  have hTE : TE (ssOf (sgO x y z u v t o) 0 gs) 555900000 (e : Rat) (ER + 1) (B : Rat) = ((e * (B + 555900000 * Sw) + KT + 1 : Nat) : Rat) := by
    unfold TE
    rw [hS.Sw]
    have c9 : ((555900000 : Nat) : Rat) = 555900000 := rfl
    simp only [Rat.natCast_add, Rat.natCast_mul, c9, c1n]
    rw [← hKTr]; grind
  rw [hTE] at b1 b2
  obtain ⟨E, hE⟩ : ∃ E, E = e * (B + 555900000 * Sw) + KT + 1 := ⟨_, rfl⟩
  have hTT := F.hTT
  have hNN := F.hNN
  have N24 := F.N24
  rw [← hE] at b1 b2
  rw [show e * (B + 555900000 * Sw) + KT + 1 + S + N0 / 16777216 + 1 = E + S + N0 / 16777216 + 1 by rw [hE]] at hTT
  rw [← hE] at hNN
  obtain ⟨_, d1⟩ := div_rat N0 16777216 (by decide)
  obtain ⟨_, d2⟩ := div_rat E 512 (by decide)
  have c16 : ((16777216 : Nat) : Rat) = 16777216 := rfl
  have c512 : ((512 : Nat) : Rat) = 512 := rfl
  rw [c16] at d1
  rw [c512] at d2
  have rT := congrArg (fun k : Nat => (k : Rat)) hTT
  simp only [Rat.natCast_add, c1n] at rT
  have hNN2 : NN + (N0 / 16777216 + E + E / 512 + 2 + NC) = N0 := by omega
  have rN := congrArg (fun k : Nat => (k : Rat)) hNN2
  simp only [Rat.natCast_add, c2n] at rN
  rw [hS.NC] at b2
  have E0 : (0 : Rat) ≤ (E : Rat) := Rat.natCast_nonneg
  rw [hio] at b1 b2
  refine ⟨f, f1, b1.mono ?_, Rat.le_trans ?_ b2, hf6⟩
  · rw [rT]; grind
  · grind
end
end Go.Proofs.Ytfkblhlkeglilaa

namespace Go.Proofs.Ytfkblhlkeglilaa
open Go.RowKit R3 Mt
set_option maxRecDepth 20000
attribute [local irreducible] D9 D7 UU WW W9 segF
section
variable {x y z : Int} {e : Nat} {L : List V3}
/-- A direction is nearly one long. -/
def One (D : R3) : Prop := Rg (D.dot D - 1) (1 / 1000000)
theorem one_of {D f : R3} {l : Rat} (h1 : Rg ((f.sm l).dot (f.sm l) - 1) (1 / 1000000000)) (h2 : nb (D.sub (f.sm l)) (65 / 10 * u24)) : One D := by
  have h3 : nb (f.sm l) (1 + 1 / 1000000000) := ⟨by decide +kernel, by obtain ⟨_, h⟩ := h1; grind⟩
  have k := dot_le h2 h3
  have e1 : D.dot D = (f.sm l).dot (f.sm l) + 2 * (D.sub (f.sm l)).dot (f.sm l) + (D.sub (f.sm l)).dot (D.sub (f.sm l)) := by
    generalize f.sm l = g
    unfold R3.dot R3.sub; grind
  have n0 := dot_nn (D.sub (f.sm l))
  have n9 := h2.2
  have hu : u24 = 1 / 16777216 := rfl
  unfold One
  rw [e1]
  rw [hu] at k n9
  obtain ⟨a1, a2⟩ := k
  obtain ⟨b1, b2⟩ := h1
  constructor <;> grind
theorem dir_any {gs : List Gh} {W1 W2 F3 u v t : Int} {SA SB Sw NC KT N0 B S TT NN : Nat} {P : V3} {p : R3} (hL : Ring12 L) (F : Fi x y z e gs W1 W2 F3 u v t SA SB Sw NC KT N0 B S TT NN) (hP : qv3 P p.x p.y p.z) (hp : nb ((p.sm io).sub (Pt x y z)) (e : Rat)) :
    ∃ (D f : R3) (l : Rat), qv3 (dirI [(L, true, 1065353216)] P) D.x D.y D.z ∧ 0 < l ∧ nb (D.sub (f.sm l)) (65 / 10 * u24) ∧ Rg ((f.sm l).dot (f.sm l) - 1) (1 / 1000000000) ∧ nb (pj (Uo u v t) (f.sm lam)) (TT : Rat) ∧ (NN : Rat) ≤ (f.sm lam).dot (Uo u v t) := by
  obtain ⟨f, f1, f2, f3, f4⟩ := ring_field hL F hP hp
  have N24 := nbr F.N24
  have c24 : ((1000000000000000000000000 : Nat) : Rat) = 1000000000000000000000000 := rfl
  rw [c24] at N24
  have hU := U_near F.hU
  have hlo : 1 / 1000000000000 ≤ f.dot f := by
    have k1 := cauchy (f.sm lam) (Uo u v t)
    have k2 := rsq_mono (show (0 : Rat) ≤ 1000000000000000000000000 by decide +kernel) (Rat.le_trans N24 f3)
    have e1 : (f.sm lam).dot (f.sm lam) = lam * lam * f.dot f := by unfold R3.dot R3.sm; grind
    have hl : lam * lam = 25108406941546723055343157692830665664409421777856138051584 := by decide +kernel
    rw [e1, hl] at k1
    have ff0 := dot_nn f
    obtain ⟨_, u2⟩ := hU
    have k3 := Rat.mul_le_mul_of_nonneg_left (show (Uo u v t).dot (Uo u v t) ≤ 2 by grind) ff0
    grind
  obtain ⟨D, l, d1, d2, d3, d4⟩ := dir_rel f1 hlo (Rat.le_trans f4.2 (by decide +kernel))
  exact ⟨D, f, l, d1, d2, d4, d3, f2, f3⟩
theorem dir_one {P : V3} {p : R3} (hL : Ring12 L) (h : bz x y z e = true) (hP : qv3 P p.x p.y p.z) (hp : nb ((p.sm io).sub (Pt x y z)) (e : Rat)) : ∃ D : R3, qv3 (dirI [(L, true, 1065353216)] P) D.x D.y D.z ∧ One D := by
  obtain ⟨gs, W1, W2, F3, u, v, t, SA, SB, Sw, NC, KT, N0, B, S, TT, NN, F, _⟩ := bl0_is h
  obtain ⟨D, f, l, d1, _, d2, d3, _, _⟩ := dir_any hL F hP hp
  exact ⟨D, d1, one_of d3 d2⟩
theorem dir_ball {k : Int → Int → Int → Nat → Bool} (hL : Ring12 L) (h : Mt.bl x y z e k = true) : ∃ (u v t : Int) (ep : Nat), k u v t ep = true ∧ ∀ (P : V3) (p : R3), qv3 P p.x p.y p.z → nb ((p.sm io).sub (Pt x y z)) (e : Rat) → ∃ D : R3, qv3 (dirI [(L, true, 1065353216)] P) D.x D.y D.z ∧ One D ∧ nb ((D.sm io).sub (Pt u v t)) (ep : Rat) := by
  obtain ⟨gs, W1, W2, F3, u, v, t, SA, SB, Sw, NC, KT, N0, B, S, TT, NN, F, h2, hk⟩ := bl_is h
  refine ⟨u, v, t, _, hk, fun P p hP hp => ?_⟩
  obtain ⟨D, f, l, d1, l0, d2, d3, d4, d5⟩ := dir_any hL F hP hp
  refine ⟨D, d1, one_of d3 d2, ?_⟩
  have N24 := F.N24
  have hN : (0 : Rat) < (NN : Rat) := Rat.natCast_lt_natCast.2 (show 0 < NN by omega)
  have r2 := nbr h2
  obtain ⟨τ, hτ⟩ : ∃ τ, τ * (NN : Rat) = TT := ⟨(TT : Rat) / NN, by rw [Rat.div_mul_cancel]; intro h; rw [h] at hN; exact absurd hN (by decide)⟩
  have T0 : (0 : Rat) ≤ (TT : Rat) := Rat.natCast_nonneg
  have τ0 : 0 ≤ τ := Rat.le_of_mul_le_mul_right (c := (NN : Rat)) (by rw [Rat.zero_mul, hτ]; exact T0) hN
  have τ2 : τ ≤ 1 := Rat.le_of_mul_le_mul_right (c := (NN : Rat)) (by rw [hτ]; grind) hN
  have hlam := lam_pos
  obtain ⟨m, hm⟩ : ∃ m, m * lam = l := ⟨l / lam, by rw [Rat.div_mul_cancel]; intro h; rw [h] at hlam; exact absurd hlam (by decide)⟩
  have m0 : 0 ≤ m := Rat.le_of_mul_le_mul_right (c := lam) (by rw [Rat.zero_mul, hm]; exact Rat.le_of_lt l0) hlam
  have efm : (f.sm lam).sm m = f.sm l := by rw [← hm]; apply R3.ext' <;> (unfold R3.sm; grind)
  have k := dir_near (F := f.sm lam) (U := Uo u v t) (n := (NN : Rat)) (T := (TT : Rat)) (τ := τ) (l := m) (g := 1 / 16777216) (U_near F.hU) d4 d5 hN (by rw [hτ]; exact Rat.le_refl) τ0 τ2 m0 (by rw [efm]; exact d3.mono (by decide +kernel)) (by decide +kernel)
  rw [efm] at k
  have k2 := (d2.tri k).sm (k := io) (K := io) ⟨by decide +kernel, Rat.le_refl⟩
  have e1 : (D.sm io).sub (Pt u v t) = (D.sub (Uo u v t)).sm io := by
    have hi := io_inv
    unfold Pt Uo
    obtain ⟨j, hj⟩ : ∃ j, j = 1 / io := ⟨_, rfl⟩
    rw [← hj] at hi ⊢
    apply R3.ext' <;> (unfold R3.sub R3.sm; grind)
  rw [e1]
  refine k2.mono ?_
  obtain ⟨_, d⟩ := div_rat (TT * 1073741824) NN (by omega)
  have c1 : ((1073741824 : Nat) : Rat) = 1073741824 := rfl
  have c2 : ((481 : Nat) : Rat) = 481 := rfl
  rw [Rat.natCast_mul, c1, ← hτ] at d
  rw [Rat.natCast_add, c2]
  have hu : u24 = 1 / 16777216 := rfl
  have hio : io = 1073741824 := rfl
  have hd : τ * 1073741824 ≤ ((TT * 1073741824 / NN : Nat) : Rat) + 1 := Rat.le_of_mul_le_mul_right (c := (NN : Rat)) (by grind) hN
  rw [hu, hio]
  grind
end
end Go.Proofs.Ytfkblhlkeglilaa

namespace Go.Proofs.Ytfkblhlkeglilaa
open Go.RowKit R3 Mt
set_option maxRecDepth 20000
attribute [local irreducible] D9 D7 UU WW W9 segF
/-- All places of the ring are at least so far. -/
def Far (p : R3) (δ : Rat) : Prop := ∀ k : R3, k.z = 0 → 9659 / 10000 * (9659 / 10000) ≤ k.dot k → k.dot k ≤ 1 → δ * δ ≤ (p.sub k).dot (p.sub k)
theorem Far.near {p q : R3} {δ η : Rat} (h : Far p δ) (g : nb (q.sub p) η) (hη : η ≤ δ) : Far q (δ - η) := by
  intro k k0 k1 k2
  have := nb_low hη g (h k k0 k1 k2)
  have e : (p.sub k).add (q.sub p) = q.sub k := by apply R3.ext' <;> (unfold R3.add R3.sub; grind)
  rw [e] at this
  exact this
theorem Far.mono {p : R3} {δ η : Rat} (h : Far p δ) (h0 : 0 ≤ η) (g : η ≤ δ) : Far p η := fun k k0 k1 k2 => Rat.le_trans (rsq_mono h0 g) (h k k0 k1 k2)
namespace Mt
theorem or_is {a b : Bool} (h : or a b = true) : a = true ∨ b = true := by cases a <;> cases b <;> simp_all
end Mt
theorem ci : ((1073741824 : Nat) : Rat) = io := rfl
theorem far_is {x y z : Int} {d : Nat} (h : far x y z d = true) : Far ((Pt x y z).sm (1 / io)) ((d : Rat) * (1 / io)) := by
  unfold far at h
  rw [force_is] at h
  obtain ⟨r, h⟩ := rt5_is h
  generalize Nat.sub r 1073741824 = a at h
  generalize Nat.sub 1037127227 (Nat.add r 1) = b at h
  unfold far3 at h
  -- in units
  have key : ∀ k : R3, k.z = 0 → 9659 / 10000 * (9659 / 10000) * (io * io) ≤ k.dot k → k.dot k ≤ io * io → (d : Rat) * d ≤ ((Pt x y z).sub k).dot ((Pt x y z).sub k) := by
    intro k k0 k1 k2
    have e1 : ((Pt x y z).sub k).dot ((Pt x y z).sub k) = ((x : Rat) - k.x) * ((x : Rat) - k.x) + ((y : Rat) - k.y) * ((y : Rat) - k.y) + (z : Rat) * z := by
      unfold Pt R3.dot R3.sub
      rw [k0]; grind
    rw [e1]
    have s1 := sq_nn ((x : Rat) - k.x)
    have s2 := sq_nn ((y : Rat) - k.y)
    have ekk : k.dot k = k.x * k.x + k.y * k.y := by unfold R3.dot; rw [k0]; grind
    rw [ekk] at k1 k2
    rcases or_is h with h | h
    · have := nbr (ble_is h)
      have e2 : ((Nat.mul d d : Nat) : Rat) = (d : Rat) * d := Rat.natCast_mul d d
      rw [e2, sqI_rat] at this
      grind
    rcases or_is h with h | h
    · obtain ⟨h1, h2⟩ := and_is h
      have r1 := nbr (ble_is h1)
      have r2 := nbr (ble_is h2)
      have e2 : ((Nat.mul d d : Nat) : Rat) = (d : Rat) * d := Rat.natCast_mul d d
      have e3 : ((Nat.mul (Nat.add 1073741824 a) (Nat.add 1073741824 a) : Nat) : Rat) = (io + a) * (io + a) := by
        have : Nat.mul (Nat.add 1073741824 a) (Nat.add 1073741824 a) = (1073741824 + a) * (1073741824 + a) := rfl
        rw [this, Rat.natCast_mul, Rat.natCast_add, ci]
      have e4 : ((Nat.add (sqI x) (sqI y) : Nat) : Rat) = (x : Rat) * x + (y : Rat) * y := by
        have : Nat.add (sqI x) (sqI y) = sqI x + sqI y := rfl
        rw [this, Rat.natCast_add, sqI_rat, sqI_rat]
      have e5 : ((Nat.add (Nat.mul a a) (sqI z) : Nat) : Rat) = (a : Rat) * a + (z : Rat) * z := by
        have : Nat.add (Nat.mul a a) (sqI z) = a * a + sqI z := rfl
        rw [this, Rat.natCast_add, Rat.natCast_mul, sqI_rat]
      rw [e3, e4] at r1
      rw [e2, e5] at r2
      have a0 : (0 : Rat) ≤ (a : Rat) := Rat.natCast_nonneg
      have lo := nb_low (V := ⟨(x : Rat), (y : Rat), 0⟩) (d := k.sm (-1)) (s := io + a) (e := io) (by grind) (show nb k io from ⟨by decide +kernel, by rw [ekk]; exact k2⟩).neg (by
        show (io + a) * (io + a) ≤ (x : Rat) * x + (y : Rat) * y + 0 * 0
        grind)
      have e6 : (R3.add ⟨(x : Rat), (y : Rat), 0⟩ (k.sm (-1))).dot (R3.add ⟨(x : Rat), (y : Rat), 0⟩ (k.sm (-1))) = ((x : Rat) - k.x) * ((x : Rat) - k.x) + ((y : Rat) - k.y) * ((y : Rat) - k.y) := by
        unfold R3.dot R3.add R3.sm
        rw [k0]; grind
      rw [e6] at lo
      grind
    · obtain ⟨h1, h2⟩ := and_is h
      obtain ⟨h2, h3⟩ := and_is h2
      have hb := ble_is h2
      have r1 := nbr (ble_is h1)
      have r2 := nbr (ble_is h3)
      have e2 : ((Nat.mul d d : Nat) : Rat) = (d : Rat) * d := Rat.natCast_mul d d
      obtain ⟨c, hc⟩ : ∃ c, 1037127227 = c + b := ⟨1037127227 - b, by omega⟩
      have hcr : (1037127227 : Rat) = (c : Rat) + b := by
        have := congrArg (fun k : Nat => (k : Rat)) hc
        simp only [Rat.natCast_add] at this
        exact this
      have e3 : ((Nat.mul (Nat.sub 1037127227 b) (Nat.sub 1037127227 b) : Nat) : Rat) = (c : Rat) * c := by
        have : Nat.mul (Nat.sub 1037127227 b) (Nat.sub 1037127227 b) = (1037127227 - b) * (1037127227 - b) := rfl
        rw [this, hc, Nat.add_sub_cancel, Rat.natCast_mul]
      have e4 : ((Nat.add (sqI x) (sqI y) : Nat) : Rat) = (x : Rat) * x + (y : Rat) * y := by
        have : Nat.add (sqI x) (sqI y) = sqI x + sqI y := rfl
        rw [this, Rat.natCast_add, sqI_rat, sqI_rat]
      have e5 : ((Nat.add (Nat.mul b b) (sqI z) : Nat) : Rat) = (b : Rat) * b + (z : Rat) * z := by
        have : Nat.add (Nat.mul b b) (sqI z) = b * b + sqI z := rfl
        rw [this, Rat.natCast_add, Rat.natCast_mul, sqI_rat]
      rw [e3, e4] at r1
      rw [e2, e5] at r2
      have b0 : (0 : Rat) ≤ (b : Rat) := Rat.natCast_nonneg
      have c0 : (0 : Rat) ≤ (c : Rat) := Rat.natCast_nonneg
      have hp : nb (⟨(x : Rat), (y : Rat), 0⟩ : R3) (c : Rat) := ⟨c0, by
        show (x : Rat) * x + (y : Rat) * y + 0 * 0 ≤ _
        grind⟩
      have lo := nb_low (V := k) (d := (⟨(x : Rat), (y : Rat), 0⟩ : R3).sm (-1)) (s := 1037127227) (e := (c : Rat)) (by grind) hp.neg (by
        rw [ekk]
        have : (1037127227 : Rat) * 1037127227 ≤ 9659 / 10000 * (9659 / 10000) * (io * io) := by decide +kernel
        exact Rat.le_trans this k1)
      have e6 : (k.add ((⟨(x : Rat), (y : Rat), 0⟩ : R3).sm (-1))).dot (k.add ((⟨(x : Rat), (y : Rat), 0⟩ : R3).sm (-1))) = ((x : Rat) - k.x) * ((x : Rat) - k.x) + ((y : Rat) - k.y) * ((y : Rat) - k.y) := by
        unfold R3.dot R3.add R3.sm
        rw [k0]; grind
      have e7 : (1037127227 : Rat) - c = b := by grind
      rw [e6, e7] at lo
      grind
  intro k k0 k1 k2
  have i2 : 0 ≤ io * io := by decide +kernel
  have g1 := Rat.mul_le_mul_of_nonneg_right k1 i2
  have g2 := Rat.mul_le_mul_of_nonneg_right k2 i2
  have e1 : (k.sm io).dot (k.sm io) = k.dot k * (io * io) := by unfold R3.dot R3.sm; grind
  have kk := key (k.sm io) (by show io * k.z = 0; rw [k0, Rat.mul_zero]) (by rw [e1]; exact g1) (by rw [e1]; rw [Rat.one_mul] at g2; exact g2)
  have hi := io_inv
  obtain ⟨j, hj⟩ : ∃ j, j = 1 / io := ⟨_, rfl⟩
  rw [← hj] at hi ⊢
  have e2 : ((Pt x y z).sm j).sub k = ((Pt x y z).sub (k.sm io)).sm j := by
    apply R3.ext' <;> (unfold R3.sub R3.sm; grind)
  have e3 : (((Pt x y z).sub (k.sm io)).sm j).dot (((Pt x y z).sub (k.sm io)).sm j) = j * j * ((Pt x y z).sub (k.sm io)).dot ((Pt x y z).sub (k.sm io)) := by unfold R3.dot R3.sm; grind
  have j2 : 0 ≤ j * j := sq_nn j
  have := Rat.mul_le_mul_of_nonneg_left kk j2
  rw [e2, e3]
  grind
end Go.Proofs.Ytfkblhlkeglilaa

namespace Go.Proofs.Ytfkblhlkeglilaa
open Go.RowKit R3 Mt
set_option maxRecDepth 20000
attribute [local irreducible] D9 D7 UU WW W9 segF fop dirI
abbrev RW (L : List V3) : List Wr := [(L, true, 1065353216)]
/-- The word of a step of h sixteenths. -/
structure Stw (st h : Nat) : Prop where
  s : qv st ((h : Rat) / 16)
  half : qv (fop .mul .f32 1056964608 st) ((h : Rat) / 32)
  h1 : 1 ≤ h
  h8 : h ≤ 8
section
variable {L : List V3} {P : V3} {p d D : R3} {st h w : Nat} {σ r : Rat}
theorem one_nb (h : One D) : nb D (100001 / 100000) := ⟨by decide +kernel, by obtain ⟨_, h⟩ := h; grind⟩
theorem add_step {Dw : V3} (hP : qv3 P p.x p.y p.z) (hD : qv3 Dw d.x d.y d.z) (h1 : One d) (hs : qv w σ) (s0 : 0 ≤ σ) (s1 : σ ≤ 1 / 2) (hp : nb p (97 / 10)) : ∃ q : R3, qv3 (add3 P (scale3 Dw w)) q.x q.y q.z ∧ nb (q.sub (p.add (d.sm σ))) (700 / io) := by
  have hd := one_nb h1
  have k1 := (hd.sm (k := σ) (K := σ) ⟨by grind, Rat.le_refl⟩).mono (B := 51 / 100) (by grind)
  obtain ⟨a, a1, a2⟩ := scale3_rel hD hs k1 (by decide +kernel)
  have k2 := (a2.from k1)
  have k3 := (hp.add k2).mono (B := 1022 / 100) (by
    have : u24 * (51 / 100) + 3 * tn ≤ 1 / 1000 := by decide +kernel
    grind)
  obtain ⟨q, q1, q2⟩ := add3_rel hP a1 k3 (by decide +kernel)
  refine ⟨q, q1, ?_⟩
  have e : (p.add a).sub (p.add (d.sm σ)) = a.sub (d.sm σ) := by apply R3.ext' <;> (unfold R3.add R3.sub; grind)
  have k4 := q2.tri (c := p.add (d.sm σ)) (F := u24 * (51 / 100) + 3 * tn) (by rw [e]; exact a2)
  exact k4.mono (by decide +kernel)
/-- How far a step goes. -/
theorem step_len {q : R3} (h1 : One d) (s0 : 1 / 32 ≤ σ) (hq : nb (q.sub (p.add (d.sm σ))) (700 / io)) : nb (q.sub p) (σ * (10001 / 10000)) := by
  have hd := (one_nb h1).sm (k := σ) (K := σ) ⟨by grind, Rat.le_refl⟩
  have e : (p.add (d.sm σ)).sub p = d.sm σ := by apply R3.ext' <;> (unfold R3.add R3.sub; grind)
  have k := hq.tri (c := p) (F := σ * (100001 / 100000)) (by rw [e]; exact hd)
  refine k.mono ?_
  have : (700 : Rat) / io ≤ 7 / 10000000 := by decide +kernel
  grind
theorem qv3_fin (hP : qv3 P p.x p.y p.z) : fin3 P = true := by
  unfold fin3
  rw [qv_fin2 hP.x, qv_fin2 hP.y, qv_fin2 hP.z]; rfl
/-- What steps do. -/
def Run (L : List V3) (st h : Nat) : Nat → V3 → R3 → Prop
  | 0, _, _ => True
  | n + 1, P, p => stepOk (RW L) P st = true ∧ ∃ d q : R3, One d ∧ qv3 (endI (RW L) P st) q.x q.y q.z ∧ nb (q.sub (p.add (d.sm ((h : Rat) / 16)))) (700 / io) ∧ Run L st h n (endI (RW L) P st) q
theorem run_step {n : Nat} {D d m : R3} (hw : Stw st h) (hP : qv3 P p.x p.y p.z) (hp : nb p (97 / 10)) (hD : qv3 (dirI (RW L) P) D.x D.y D.z) (hM : qv3 (midI (RW L) P st) m.x m.y m.z) (hd : qv3 (dirI (RW L) (midI (RW L) P st)) d.x d.y d.z) (h1 : One d)
    (hr : ∀ q : R3, qv3 (endI (RW L) P st) q.x q.y q.z → nb (q.sub (p.add (d.sm ((h : Rat) / 16)))) (700 / io) → Run L st h n (endI (RW L) P st) q) : Run L st h (n + 1) P p := by
  have h0 : (0 : Rat) ≤ (h : Rat) := Rat.natCast_nonneg
  have h8 : (h : Rat) ≤ 8 := nbr hw.h8
  obtain ⟨q, q1, q2⟩ := add_step (P := P) (Dw := dirI (RW L) (midI (RW L) P st)) hP hd h1 hw.s (by grind) (by grind) hp
  have q1 : qv3 (endI (RW L) P st) q.x q.y q.z := q1
  refine ⟨?_, d, q, h1, q1, q2, hr q q1 q2⟩
  unfold stepOk dirOk
  rw [qv3_fin hP, qv3_fin hD, qv3_fin hM, qv3_fin hd, qv3_fin q1]; rfl
/-- Where lines begin. -/
structure Sta (p : R3) : Prop where
  x1 : 2 ≤ p.x
  x2 : p.x ≤ 6
  y : Rg p.y 2
  z : Rg p.z 2
/-- Where lines may come. -/
structure Box (p : R3) : Prop where
  x1 : -127 / 100 ≤ p.x
  x2 : p.x ≤ 927 / 100
  y : Rg p.y (527 / 100)
  z : Rg p.z (527 / 100)
  n : nb p (99055 / 10000)
theorem sta_nb (h : Sta p) : nb p (6635 / 1000) := by
  refine ⟨by decide +kernel, ?_⟩
  have hx : Rg p.x 6 := ⟨by have := h.x1; grind, h.x2⟩
  have a1 := (rmul hx hx).2
  have a2 := (rmul h.y h.y).2
  have a3 := (rmul h.z h.z).2
  unfold R3.dot
  grind
theorem sta_box {s : R3} (h : Sta s) (hp : nb (p.sub s) r) (hr : r ≤ 327 / 100) : Box p ∧ nb p (99055 / 10000) := by
  have hn := sta_nb h
  obtain ⟨a, b, c⟩ := nb_x (hp.mono hr)
  have e1 : (p.sub s).x = p.x - s.x := rfl
  have e2 : (p.sub s).y = p.y - s.y := rfl
  have e3 : (p.sub s).z = p.z - s.z := rfl
  rw [e1] at a
  rw [e2] at b
  rw [e3] at c
  obtain ⟨a1, a2⟩ := a
  obtain ⟨b1, b2⟩ := b
  obtain ⟨c1, c2⟩ := c
  obtain ⟨s1, s2, ⟨s3, s4⟩, ⟨s5, s6⟩⟩ := h
  have hm := (hp.from hn).mono (B := 99055 / 10000) (by grind)
  exact ⟨⟨by grind, by grind, ⟨by grind, by grind⟩, ⟨by grind, by grind⟩, hm⟩, hm⟩
/-- The field is everywhere where lines may come, if it is far from the ring. -/
def Evw (L : List V3) : Prop := ∀ (P : V3) (p : R3), qv3 P p.x p.y p.z → Box p → Far p (1 / 10) → ∃ D : R3, qv3 (dirI (RW L) P) D.x D.y D.z ∧ One D
/-- The way so far. -/
def Dom (h : Nat) (n : Nat) (p : R3) : Prop := ∃ s : R3, Sta s ∧ nb (p.sub s) ((7 - (n : Rat)) * ((h : Rat) / 16 * (10001 / 10000)))
theorem dom_r {n : Nat} (hn : n + 1 ≤ 7) (h8 : h ≤ 8) : (7 - ((n + 1 : Nat) : Rat)) * ((h : Rat) / 16 * (10001 / 10000)) ≤ 30003 / 10000 ∧ (7 - ((n + 1 : Nat) : Rat)) * ((h : Rat) / 16 * (10001 / 10000)) + (h : Rat) / 16 * (10001 / 10000) = (7 - (n : Rat)) * ((h : Rat) / 16 * (10001 / 10000)) := by
  have r8 : (h : Rat) ≤ 8 := nbr h8
  have h0 : (0 : Rat) ≤ (h : Rat) := Rat.natCast_nonneg
  have n0 : (0 : Rat) ≤ (n : Rat) := Rat.natCast_nonneg
  have n9 : (n : Rat) + 1 ≤ 7 := by
    have := nbr hn
    rw [Rat.natCast_add, c1n] at this
    exact this
  rw [Rat.natCast_add, c1n]
  constructor
  · have k1 := Rat.mul_le_mul_of_nonneg_right (show 7 - ((n : Rat) + 1) ≤ 6 by grind) (show 0 ≤ (h : Rat) / 16 * (10001 / 10000) by grind)
    grind
  · grind
theorem far_run (hw : Stw st h) (hE : Evw L) : ∀ (n : Nat) (P : V3) (p : R3), n ≤ 7 → qv3 P p.x p.y p.z → Dom h n p → (∀ k, n = k + 1 → Far p ((2 * (k : Rat) + 1) * (h : Rat) / 32 + 1 / 10 + ((k : Rat) + 1) / 1000)) → Run L st h n P p
  | 0, _, _, _, _, _, _ => trivial
  | n + 1, P, p, hn, hP, hD, hF => by
    have F := hF n rfl
    obtain ⟨s, s1, s2⟩ := hD
    obtain ⟨r1, r2⟩ := dom_r (n := n) hn hw.h8
    have h1 : (1 : Rat) ≤ (h : Rat) := nbr hw.h1
    have h8 : (h : Rat) ≤ 8 := nbr hw.h8
    have n0 : (0 : Rat) ≤ (n : Rat) := Rat.natCast_nonneg
    have nh := Rat.mul_nonneg n0 (show 0 ≤ (h : Rat) by grind)
    obtain ⟨b1, b2⟩ := sta_box s1 s2 (by grind)
    have b3 : nb p (97 / 10) := (s2.from (sta_nb s1)).mono (by grind)
    obtain ⟨D, d1, d2⟩ := hE P p hP b1 (F.mono (by decide +kernel) (by grind))
    obtain ⟨m, m1, m2⟩ := add_step (P := P) (Dw := dirI (RW L) P) hP d1 d2 hw.half (by grind) (by grind) b3
    have m3 := step_len d2 (by grind) m2
    have m1 : qv3 (midI (RW L) P st) m.x m.y m.z := m1
    obtain ⟨c1, _⟩ := sta_box s1 (m3.tri s2) (by grind)
    obtain ⟨d, e1, e2⟩ := hE _ m m1 c1 ((F.near m3 (by grind)).mono (by decide +kernel) (by grind))
    refine run_step hw hP b3 d1 m1 e1 e2 fun q q1 q2 => ?_
    have q3 := step_len e2 (by grind) q2
    refine far_run hw hE n _ q (by omega) q1 ⟨s, s1, (q3.tri s2).mono (by grind)⟩ fun k hk => ?_
    subst hk
    have ek : ((k + 1 : Nat) : Rat) = (k : Rat) + 1 := by rw [Rat.natCast_add, c1n]
    rw [ek] at F n0 nh
    have k0 : (0 : Rat) ≤ (k : Rat) := Rat.natCast_nonneg
    have kh := Rat.mul_nonneg k0 (show 0 ≤ (h : Rat) by grind)
    exact (F.near q3 (by grind)).mono (by grind) (by grind)
end
end Go.Proofs.Ytfkblhlkeglilaa

namespace Go.Proofs.Ytfkblhlkeglilaa
open Go.RowKit R3 Mt
set_option maxRecDepth 20000
attribute [local irreducible] D9 D7 UU WW W9 segF fop dirI
section
variable {L : List V3} {P : V3} {p : R3} {x y : Int} {s : Nat}
/-- What is far is not near. -/
theorem not_near (hF : Far p (1 / 10)) (hz : Rg p.z (51 / 10000)) (h1 : p.x * p.x + p.y * p.y ≤ 10991 / 10000 * (10991 / 10000)) (h2 : 8668 / 10000 * (8668 / 10000) ≤ p.x * p.x + p.y * p.y) : False := by
  have hzz := (rmul hz hz).2
  obtain ⟨r, hr⟩ : ∃ r, r = p.x * p.x + p.y * p.y := ⟨_, rfl⟩
  rw [← hr] at h1 h2
  -- a place of the ring along the way
  have key : ∀ κ : Rat, 9659 / 10000 * (9659 / 10000) ≤ κ * κ * r → κ * κ * r ≤ 1 → r * ((1 - κ) * (1 - κ)) ≤ 985 / 100000 → False := by
    intro κ a b c
    have e1 : (⟨κ * p.x, κ * p.y, 0⟩ : R3).dot ⟨κ * p.x, κ * p.y, 0⟩ = κ * κ * r := by rw [hr]; unfold R3.dot; grind
    have k := hF ⟨κ * p.x, κ * p.y, 0⟩ rfl (by rw [e1]; exact a) (by rw [e1]; exact b)
    have e2 : (p.sub ⟨κ * p.x, κ * p.y, 0⟩).dot (p.sub ⟨κ * p.x, κ * p.y, 0⟩) = r * ((1 - κ) * (1 - κ)) + p.z * p.z := by rw [hr]; unfold R3.dot R3.sub; grind
    rw [e2] at k
    grind
  obtain ⟨t, t0, t1, t2⟩ := bisect (R := r) (by grind) (by grind) 50
  have c50 : (1024 : Rat) / ((2 ^ 50 : Nat) : Rat) = 1 / 1099511627776 := by decide +kernel
  rw [c50] at t2
  have t9 : t ≤ 10991 / 10000 := rsq_le (by decide +kernel) (Rat.le_trans t1 h1)
  have t8 : 8668 / 10000 ≤ t + 1 / 1099511627776 := rsq_le (by grind) (Rat.le_trans h2 t2)
  obtain ⟨ρ, hρ⟩ : ∃ ρ, ρ = t + 1 / 1099511627776 := ⟨_, rfl⟩
  rw [← hρ] at t2 t8
  have ρ0 : 0 < ρ := by grind
  have tt : 0 < t := by grind
  rcases (Rat.le_total : r ≤ 1 ∨ 1 ≤ r) with g | g
  · rcases (Rat.le_total : r ≤ 9659 / 10000 * (9659 / 10000) ∨ 9659 / 10000 * (9659 / 10000) ≤ r) with g2 | g2
    · obtain ⟨i, hi⟩ : ∃ i, i * t = 1 := ⟨1 / t, by rw [Rat.div_mul_cancel]; intro h; rw [h] at tt; exact absurd tt (by decide)⟩
      have i0 : 0 ≤ i := Rat.le_of_mul_le_mul_right (c := t) (by rw [Rat.zero_mul, hi]; decide) tt
      have ii := Rat.mul_nonneg i0 i0
      have e1 : i * i * (t * t) = 1 := by
        have : i * i * (t * t) = i * t * (i * t) := by grind
        rw [this, hi]; decide +kernel
      have r1 : 1 ≤ i * i * r := by
        have := Rat.mul_le_mul_of_nonneg_left t1 ii
        rw [e1] at this; exact this
      have r2 : i * i * r ≤ 10001 / 10000 := by
        have h3 : ρ * ρ ≤ t * t * (10001 / 10000) := by
          have tq : 8667 / 10000 * t ≤ t * t := Rat.mul_le_mul_of_nonneg_right (show 8667 / 10000 ≤ t by grind) t0
          rw [hρ]; grind
        have := Rat.mul_le_mul_of_nonneg_left (Rat.le_trans t2 h3) ii
        have e2 : i * i * (t * t * (10001 / 10000)) = i * i * (t * t) * (10001 / 10000) := by grind
        rw [e2, e1] at this
        grind
      have t7 : t ≤ 9659 / 10000 := rsq_le (by decide +kernel) (Rat.le_trans t1 g2)
      refine key (9659 / 10000 * i) (by grind) (by grind) ?_
      have e3 : r * ((1 - 9659 / 10000 * i) * (1 - 9659 / 10000 * i)) = i * i * r * ((t - 9659 / 10000) * (t - 9659 / 10000)) := by
        have : 1 - 9659 / 10000 * i = i * (t - 9659 / 10000) := by grind
        rw [this]; grind
      rw [e3]
      have r0 : Rg (t - 9659 / 10000) (992 / 10000) := ⟨by grind, by grind⟩
      have r3 := (rmul r0 r0).2
      have := Rat.mul_le_mul_of_nonneg_left r3 (show 0 ≤ i * i * r by grind)
      grind
    · exact key 1 (by grind) (by grind) (by
        have : r * ((1 - 1) * (1 - 1)) = 0 := by grind
        rw [this]; decide +kernel)
  · obtain ⟨i, hi⟩ : ∃ i, i * ρ = 1 := ⟨1 / ρ, by rw [Rat.div_mul_cancel]; intro h; rw [h] at ρ0; exact absurd ρ0 (by decide)⟩
    have i0 : 0 ≤ i := Rat.le_of_mul_le_mul_right (c := ρ) (by rw [Rat.zero_mul, hi]; decide) ρ0
    have ii := Rat.mul_nonneg i0 i0
    have e1 : i * i * (ρ * ρ) = 1 := by
      have : i * i * (ρ * ρ) = i * ρ * (i * ρ) := by grind
      rw [this, hi]; decide +kernel
    have r2 : i * i * r ≤ 1 := by
      have := Rat.mul_le_mul_of_nonneg_left t2 ii
      rw [e1] at this; exact this
    have r1 : 99 / 100 ≤ i * i * r := by
      have h3 : ρ * ρ * (99 / 100) ≤ t * t := by
        have tq := Rat.mul_le_mul_of_nonneg_left t8 t0
        have ρt : 8667 / 10000 * t ≤ t * t := by
          have := Rat.mul_le_mul_of_nonneg_right (show 8667 / 10000 ≤ t by grind) t0
          exact this
        rw [hρ]; grind
      have := Rat.mul_le_mul_of_nonneg_left (Rat.le_trans h3 t1) ii
      have e2 : i * i * (ρ * ρ * (99 / 100)) = i * i * (ρ * ρ) * (99 / 100) := by grind
      rw [e2, e1] at this
      grind
    have ρ1 : 1 ≤ ρ := rsq_le (Rat.le_of_lt ρ0) (by grind)
    refine key i (by grind) r2 ?_
    have e3 : r * ((1 - i) * (1 - i)) = i * i * r * ((ρ - 1) * (ρ - 1)) := by
      have : 1 - i = i * (ρ - 1) := by grind
      rw [this]; grind
    rw [e3]
    have r0 : Rg (ρ - 1) (992 / 10000) := ⟨by grind, by grind⟩
    have r3 := (rmul r0 r0).2
    have := Rat.mul_le_mul_of_nonneg_left r3 (show 0 ≤ i * i * r by grind)
    grind
/-- The place is in the square. -/
structure InSq (x y : Int) (s : Nat) (p : R3) : Prop where
  x : Rg (io * p.x - (x : Rat)) (s : Rat)
  y : Rg (io * p.y - (y : Rat)) (s : Rat)
theorem sq_box {x : Int} {v : Rat} {s : Nat} (h : Rg (v - (x : Rat)) (s : Rat)) : v * v ≤ ((Int.natAbs x + s : Nat) : Rat) * ((Int.natAbs x + s : Nat) : Rat) ∧ ((Int.natAbs x - s : Nat) : Rat) * ((Int.natAbs x - s : Nat) : Rat) ≤ v * v := by
  obtain ⟨a, ha⟩ : ∃ a, a = Int.natAbs x := ⟨_, rfl⟩
  have hx : (x : Rat) = (a : Rat) ∨ (x : Rat) = -(a : Rat) := by
    rcases Int.natAbs_eq x with e | e
    · left; rw [ha]
      have := congrArg (fun k : Int => (k : Rat)) e
      exact this
    · right; rw [ha]
      have := congrArg (fun k : Int => (k : Rat)) e
      rw [Rat.intCast_neg] at this
      exact this
  rw [← ha]
  obtain ⟨h1, h2⟩ := h
  have a0 : (0 : Rat) ≤ (a : Rat) := Rat.natCast_nonneg
  have s0 : (0 : Rat) ≤ (s : Rat) := Rat.natCast_nonneg
  constructor
  · rw [Rat.natCast_add]
    have hv : Rg v ((a : Rat) + s) := by
      rcases hx with e | e <;> (rw [e] at h1 h2; constructor <;> grind)
    exact (rmul hv hv).2
  · rcases Nat.le_total s a with g | g
    · obtain ⟨c, hc⟩ : ∃ c, a = c + s := ⟨a - s, by omega⟩
      rw [hc, Nat.add_sub_cancel]
      have ec : (a : Rat) = (c : Rat) + s := by rw [hc, Rat.natCast_add]
      have c0 : (0 : Rat) ≤ (c : Rat) := Rat.natCast_nonneg
      rcases hx with e | e
      · exact rsq_mono c0 (show (c : Rat) ≤ v by rw [e] at h1; grind)
      · have := rsq_mono c0 (show (c : Rat) ≤ -v by rw [e] at h2; grind)
        grind
    · rw [Nat.sub_eq_zero_of_le g]
      have := sq_nn v
      have e : ((0 : Nat) : Rat) = 0 := rfl
      rw [e]; grind
theorem insB_no (h : insB (Int.natAbs x) (Int.natAbs y) s = true) (H : InSq x y s p) (hF : Far p (1 / 10)) (hz : Rg p.z (51 / 10000)) : False := by
  obtain ⟨h1, h2⟩ := and_is h
  have r1 := nbr (ble_is h1)
  have r2 := nbr (ble_is h2)
  obtain ⟨a1, a2⟩ := sq_box H.x
  obtain ⟨b1, b2⟩ := sq_box H.y
  have e1 : Nat.add (Nat.mul (Nat.add x.natAbs s) (Nat.add x.natAbs s)) (Nat.mul (Nat.add y.natAbs s) (Nat.add y.natAbs s)) = (x.natAbs + s) * (x.natAbs + s) + (y.natAbs + s) * (y.natAbs + s) := rfl
  have e2 : Nat.add (Nat.mul (Nat.sub x.natAbs s) (Nat.sub x.natAbs s)) (Nat.mul (Nat.sub y.natAbs s) (Nat.sub y.natAbs s)) = (x.natAbs - s) * (x.natAbs - s) + (y.natAbs - s) * (y.natAbs - s) := rfl
  rw [e1, Rat.natCast_add, Rat.natCast_mul, Rat.natCast_mul] at r1
  rw [e2, Rat.natCast_add, Rat.natCast_mul, Rat.natCast_mul] at r2
  have c1 : ((1392499744826245696 : Nat) : Rat) = 1392499744826245696 := rfl
  have c2 : ((866438507396743369 : Nat) : Rat) = 866438507396743369 := rfl
  rw [c1] at r1
  rw [c2] at r2
  have i2 : io * io = 1152921504606846976 := by decide +kernel
  have f1 : io * p.x * (io * p.x) = 1152921504606846976 * (p.x * p.x) := by rw [← i2]; grind
  have f2 : io * p.y * (io * p.y) = 1152921504606846976 * (p.y * p.y) := by rw [← i2]; grind
  rw [f1] at a1 a2
  rw [f2] at b1 b2
  exact not_near hF hz (by grind) (by grind)
theorem sq_ball (H : InSq x y s p) (hz : Rg p.z (1 / 200)) : nb ((p.sm io).sub (Pt x y 0)) ((s * 14143 / 10000 + 1 + 5368710 : Nat) : Rat) := by
  refine ⟨Rat.natCast_nonneg, ?_⟩
  obtain ⟨_, d⟩ := div_rat (s * 14143) 10000 (by decide)
  have c1 : ((14143 : Nat) : Rat) = 14143 := rfl
  have c2 : ((10000 : Nat) : Rat) = 10000 := rfl
  have c3 : ((5368710 : Nat) : Rat) = 5368710 := rfl
  rw [Rat.natCast_mul, c1, c2] at d
  simp only [Rat.natCast_add, c1n, c3]
  generalize ((s * 14143 / 10000 : Nat) : Rat) = E at *
  have s0 : (0 : Rat) ≤ (s : Rat) := Rat.natCast_nonneg
  have hE : (s : Rat) * (14143 / 10000) + 5368710 ≤ E + 1 + 5368710 := by grind
  have k := rsq_mono (show 0 ≤ (s : Rat) * (14143 / 10000) + 5368710 by grind) hE
  have a1 := (rmul H.x H.x).2
  have a2 := (rmul H.y H.y).2
  have hz2 : Rg (io * p.z) 5368710 := by
    have e : io = 1073741824 := rfl
    rw [e]
    obtain ⟨g1, g2⟩ := hz
    constructor <;> grind
  have a3 := (rmul hz2 hz2).2
  have e0 : ((0 : Int) : Rat) = 0 := rfl
  have e1 : ((p.sm io).sub (Pt x y 0)).dot ((p.sm io).sub (Pt x y 0)) = (io * p.x - (x : Rat)) * (io * p.x - (x : Rat)) + (io * p.y - (y : Rat)) * (io * p.y - (y : Rat)) + io * p.z * (io * p.z) := by
    unfold R3.dot R3.sub R3.sm Pt
    rw [e0]; grind
  rw [e1]
  have ss := Rat.mul_nonneg s0 s0
  grind
theorem half_sq {v : Rat} {x : Int} {s h : Nat} (H : Rg (v - (x : Rat)) (s : Rat)) (hs : s ≤ 2 * h) : Rg (v - ((x + h : Int) : Rat)) (h : Rat) ∨ Rg (v - ((x - h : Int) : Rat)) (h : Rat) := by
  have r := nbr hs
  rw [Rat.natCast_mul, c2n] at r
  obtain ⟨h1, h2⟩ := H
  have e1 : ((x + (h : Int) : Int) : Rat) = (x : Rat) + (h : Rat) := by rw [Rat.intCast_add]; rfl
  have e2 : ((x - (h : Int) : Int) : Rat) = (x : Rat) - (h : Rat) := by rw [Rat.intCast_sub]; rfl
  rw [e1, e2]
  rcases (Rat.le_total : (x : Rat) ≤ v ∨ v ≤ (x : Rat)) with g | g
  · left; constructor <;> grind
  · right; constructor <;> grind
theorem slb_dir (hL : Ring12 L) (hP : qv3 P p.x p.y p.z) (hF : Far p (1 / 10)) (hz : Rg p.z (1 / 200)) : ∀ (n : Nat) (x y : Int) (s : Nat), slb n x y s = true → InSq x y s p → ∃ D : R3, qv3 (dirI (RW L) P) D.x D.y D.z ∧ One D
  | 0, _, _, _, h, _ => by cases h
  | n + 1, x, y, s, h, H => by
    rw [slb_succ] at h
    rcases or_is h with h | h
    · exact (insB_no h H hF (hz.mono (by decide +kernel))).elim
    rcases or_is h with h | h
    · rw [force_is] at h
      exact dir_one hL h hP (sq_ball H hz)
    · rw [force_is] at h
      obtain ⟨h1, h⟩ := and_is h
      rw [forceI_is, forceI_is, forceI_is, forceI_is] at h
      have hs := ble_is h1
      obtain ⟨k1, h⟩ := and_is h
      obtain ⟨k2, h⟩ := and_is h
      obtain ⟨k3, k4⟩ := and_is h
      rcases half_sq H.x hs with a | a <;> rcases half_sq H.y hs with b | b
      · exact slb_dir hL hP hF hz n _ _ _ k1 ⟨a, b⟩
      · exact slb_dir hL hP hF hz n _ _ _ k2 ⟨a, b⟩
      · exact slb_dir hL hP hF hz n _ _ _ k3 ⟨a, b⟩
      · exact slb_dir hL hP hF hz n _ _ _ k4 ⟨a, b⟩
end
theorem cell {v : Rat} : ∀ {n : Nat}, 0 ≤ v → v ≤ (n : Rat) → 0 < n → ∃ i, i < n ∧ (i : Rat) ≤ v ∧ v ≤ (i : Rat) + 1
  | 0, _, _, h => absurd h (by decide)
  | 1, h0, h1, _ => ⟨0, by decide, h0, by
    have e0 : ((0 : Nat) : Rat) = 0 := rfl
    rw [c1n] at h1; rw [e0]; grind⟩
  | n + 2, h0, h1, _ => by
    rcases (Rat.le_total : v ≤ ((n + 1 : Nat) : Rat) ∨ ((n + 1 : Nat) : Rat) ≤ v) with g | g
    · obtain ⟨i, a, b⟩ := cell h0 g (by omega)
      exact ⟨i, by omega, b⟩
    · have e : ((n + 2 : Nat) : Rat) = ((n + 1 : Nat) : Rat) + 1 := by
        rw [show n + 2 = n + 1 + 1 from rfl, Rat.natCast_add (n + 1) 1, c1n]
      exact ⟨n + 1, by omega, g, by rw [← e]; exact h1⟩
/-- The table of squares. -/
def SlabT : Prop := ∀ i j : Nat, i < 11 → j < 11 → slq (2 * (i : Int) - 2) (2 * (j : Int) - 10) = true
theorem slab_dir {L : List V3} {P : V3} {p : R3} (hL : Ring12 L) (hT : SlabT) (hP : qv3 P p.x p.y p.z) (hB : Box p) (hF : Far p (1 / 10)) (hz : Rg p.z (1 / 200)) : ∃ D : R3, qv3 (dirI (RW L) P) D.x D.y D.z ∧ One D := by
  have c11 : ((11 : Nat) : Rat) = 11 := rfl
  obtain ⟨bx, bx', ⟨by1, by2⟩, _, _⟩ := hB
  obtain ⟨i, i1, i2, i3⟩ := cell (v := p.x + 3 / 2) (n := 11) (by grind) (by rw [c11]; grind) (by decide)
  obtain ⟨j, j1, j2, j3⟩ := cell (v := p.y + 11 / 2) (n := 11) (by grind) (by rw [c11]; grind) (by decide)
  have h := hT i j i1 j1
  unfold slq at h
  rw [forceI_is, forceI_is] at h
  refine slb_dir hL hP hF hz 10 _ _ _ h ?_
  have e : ∀ (i : Nat) (c : Int), ((Int.mul (2 * (i : Int) - c) (Int.ofNat 536870912) : Int) : Rat) = (2 * (i : Rat) - (c : Rat)) * 536870912 := by
    intro i c
    have : Int.mul (2 * (i : Int) - c) (Int.ofNat 536870912) = (2 * (i : Int) - c) * 536870912 := rfl
    rw [this, Rat.intCast_mul, Rat.intCast_sub, Rat.intCast_mul]; rfl
  have cs : ((536870912 : Nat) : Rat) = 536870912 := rfl
  have f2 : ((2 : Int) : Rat) = 2 := rfl
  have f10 : ((10 : Int) : Rat) = 10 := rfl
  have ei : io = 1073741824 := rfl
  constructor
  · rw [e, cs, f2, ei]; constructor <;> grind
  · rw [e, cs, f10, ei]; constructor <;> grind
end Go.Proofs.Ytfkblhlkeglilaa

namespace Go.Proofs.Ytfkblhlkeglilaa
open Go.RowKit R3 Mt
set_option maxRecDepth 20000
attribute [local irreducible] D9 D7 UU WW W9 segF fop
/-- An edge's corners are near the circle. -/
structure EdC (d : Ed) : Prop where
  a0 : 1152920000000000000 ≤ d.ax * d.ax + d.ay * d.ay
  a1 : d.ax * d.ax + d.ay * d.ay ≤ 1152923000000000000
  b0 : 1152920000000000000 ≤ d.bx * d.bx + d.by' * d.by'
  b1 : d.bx * d.bx + d.by' * d.by' ≤ 1152923000000000000
  c : 576458000000000000 ≤ d.c0
  L : d.L2 ≤ 308926000000000000
instance (d : Ed) : Decidable (EdC d) := decidable_of_iff (1152920000000000000 ≤ d.ax * d.ax + d.ay * d.ay ∧ d.ax * d.ax + d.ay * d.ay ≤ 1152923000000000000 ∧ 1152920000000000000 ≤ d.bx * d.bx + d.by' * d.by' ∧ d.bx * d.bx + d.by' * d.by' ≤ 1152923000000000000 ∧ 576458000000000000 ≤ d.c0 ∧ d.L2 ≤ 308926000000000000) ⟨fun ⟨a, b, c, d, e, f⟩ => ⟨a, b, c, d, e, f⟩, fun h => ⟨h.a0, h.a1, h.b0, h.b1, h.c, h.L⟩⟩
theorem eds_c : ∀ d ∈ eds, EdC d := by decide +kernel
/-- Two corners. -/
structure Co (a b : R3) : Prop where
  az : a.z = 0
  bz : b.z = 0
  A : Rg (a.dot a - 1) (1 / 500000)
  B : Rg (b.dot b - 1) (1 / 500000)
  c : 49999 / 100000 ≤ a.x * b.y - a.y * b.x
  L : (a.sub b).dot (a.sub b) ≤ 26796 / 100000
theorem oc_of {d : Ed} (h : EdOk d) (g : EdC d) : Co ((cA d).sm (1 / io)) ((cB d).sm (1 / io)) := by
  obtain ⟨j, hj⟩ : ∃ j, j = 1 / io := ⟨_, rfl⟩
  have jj : j * j = 1 / 1152921504606846976 := by rw [hj]; decide +kernel
  rw [← hj]
  have sq : ∀ x y : Int, (x : Rat) * x + (y : Rat) * y = ((x * x + y * y : Int) : Rat) := fun x y => by rw [Rat.intCast_add, Rat.intCast_mul, Rat.intCast_mul]
  have up : ∀ {a b : Int}, a ≤ b → (a : Rat) ≤ (b : Rat) := fun h => Rat.intCast_le_intCast.2 h
  have c1 : ((1152920000000000000 : Int) : Rat) = 1152920000000000000 := rfl
  have c2 : ((1152923000000000000 : Int) : Rat) = 1152923000000000000 := rfl
  have c3 : ((576458000000000000 : Int) : Rat) = 576458000000000000 := rfl
  have c4 : ((308926000000000000 : Nat) : Rat) = 308926000000000000 := rfl
  have a0 := up g.a0
  have a1 := up g.a1
  have b0 := up g.b0
  have b1 := up g.b1
  have k0 := up g.c
  have k1 := nbr g.L
  rw [← sq, c1] at a0 b0
  rw [← sq, c2] at a1 b1
  rw [c3] at k0
  rw [c4, ← eW3_sq h, ← eW3_is h] at k1
  have e3 : ((d.c0 : Int) : Rat) = (d.ax : Rat) * d.by' - (d.ay : Rat) * d.bx := by rw [h.c0, Rat.intCast_sub, Rat.intCast_mul, Rat.intCast_mul]
  rw [e3] at k0
  have eA : ((cA d).sm j).dot ((cA d).sm j) = j * j * ((d.ax : Rat) * d.ax + (d.ay : Rat) * d.ay) := by unfold R3.dot R3.sm cA; grind
  have eB : ((cB d).sm j).dot ((cB d).sm j) = j * j * ((d.bx : Rat) * d.bx + (d.by' : Rat) * d.by') := by unfold R3.dot R3.sm cB; grind
  have eL : (((cA d).sm j).sub ((cB d).sm j)).dot (((cA d).sm j).sub ((cB d).sm j)) = j * j * ((cB d).sub (cA d)).dot ((cB d).sub (cA d)) := by unfold R3.dot R3.sm R3.sub; grind
  have eC : ((cA d).sm j).x * ((cB d).sm j).y - ((cA d).sm j).y * ((cB d).sm j).x = j * j * ((d.ax : Rat) * d.by' - (d.ay : Rat) * d.bx) := by unfold R3.sm cA cB; grind
  refine ⟨?_, ?_, ?_, ?_, ?_, ?_⟩
  · show j * 0 = 0
    rw [Rat.mul_zero]
  · show j * 0 = 0
    rw [Rat.mul_zero]
  · rw [eA, jj]; constructor <;> grind
  · rw [eB, jj]; constructor <;> grind
  · rw [eC, jj]; grind
  · rw [eL, jj]; grind
section
variable {a b p r s : R3} {x y : Rat}
/-- A place between the corners is far. -/
theorem chord (C : Co a b) (hF : Far p (1 / 10)) {t u : Rat} (t0 : 0 ≤ t) (u0 : 0 ≤ u) (tu : t + u = 1) : 999 / 10000 * (999 / 10000) ≤ (p.sub ((a.sm t).add (b.sm u))).dot (p.sub ((a.sm t).add (b.sm u))) := by
  obtain ⟨w, hw⟩ : ∃ w, w = (a.sm t).add (b.sm u) := ⟨_, rfl⟩
  rw [← hw]
  have wz : w.z = 0 := by
    rw [hw]; show t * a.z + u * b.z = 0
    rw [C.az, C.bz]; grind
  have ew : w.dot w = t * a.dot a + u * b.dot b - t * u * (a.sub b).dot (a.sub b) := by
    have : u = 1 - t := by grind
    rw [hw, this]; unfold R3.dot R3.add R3.sm R3.sub; grind
  obtain ⟨A1, A2⟩ := C.A
  obtain ⟨B1, B2⟩ := C.B
  have tu0 := Rat.mul_nonneg t0 u0
  have tu4 : t * u ≤ 1 / 4 := by
    have h1 := sq_nn (t - u)
    have h2 : (t + u) * (t + u) = 1 := by rw [tu]; decide +kernel
    grind
  have L0 := dot_nn (a.sub b)
  have k1 := Rat.mul_le_mul_of_nonneg_left C.L tu0
  have k2 := Rat.mul_nonneg tu0 L0
  have k3 := Rat.mul_le_mul_of_nonneg_left (show a.dot a ≤ 1 + 1 / 500000 by grind) t0
  have k4 := Rat.mul_le_mul_of_nonneg_left (show b.dot b ≤ 1 + 1 / 500000 by grind) u0
  have k5 := Rat.mul_le_mul_of_nonneg_left (show 1 - 1 / 500000 ≤ a.dot a by grind) t0
  have k6 := Rat.mul_le_mul_of_nonneg_left (show 1 - 1 / 500000 ≤ b.dot b by grind) u0
  have w1 : w.dot w ≤ 1 + 1 / 500000 := by rw [ew]; grind
  have w0 : 933 / 1000 ≤ w.dot w := by rw [ew]; grind
  have ek : (w.sm (499999 / 500000)).dot (w.sm (499999 / 500000)) = 499999 / 500000 * (499999 / 500000) * w.dot w := by unfold R3.dot R3.sm; grind
  have h := hF (w.sm (499999 / 500000)) (by show 499999 / 500000 * w.z = 0; rw [wz, Rat.mul_zero]) (by rw [ek]; grind) (by rw [ek]; grind)
  have wn : nb w 2 := ⟨by decide +kernel, by grind⟩
  have d1 : nb ((w.sm (499999 / 500000)).sub w) (1 / 100000) := by
    have e : (w.sm (499999 / 500000)).sub w = w.sm (-1 / 500000) := by apply R3.ext' <;> (unfold R3.sub R3.sm; grind)
    rw [e]
    exact (wn.sm (k := -1 / 500000) (K := 1 / 500000) ⟨by decide +kernel, by decide +kernel⟩).mono (by decide +kernel)
  have lo := nb_low (by decide +kernel) d1 h
  have e : (p.sub (w.sm (499999 / 500000))).add ((w.sm (499999 / 500000)).sub w) = p.sub w := by apply R3.ext' <;> (unfold R3.add R3.sub; grind)
  rw [e] at lo
  grind
theorem far_co (C : Co a b) (hF : Far p (1 / 10)) : 999 / 10000 * (999 / 10000) ≤ (p.sub a).dot (p.sub a) ∧ 999 / 10000 * (999 / 10000) ≤ (p.sub b).dot (p.sub b) := by
  have h1 := chord C hF (t := 1) (u := 0) (by decide) (by decide) (by decide +kernel)
  have h2 := chord C hF (t := 0) (u := 1) (by decide) (by decide) (by decide +kernel)
  have e1 : (a.sm 1).add (b.sm 0) = a := by apply R3.ext' <;> (unfold R3.add R3.sm; grind)
  have e2 : (a.sm 0).add (b.sm 1) = b := by apply R3.ext' <;> (unfold R3.add R3.sm; grind)
  rw [e1] at h1
  rw [e2] at h2
  exact ⟨h1, h2⟩
/-- Both ways together are longer than the edge. -/
theorem far_edge (C : Co a b) (hF : Far p (1 / 10)) (hr : r = p.sub a) (hs : s = p.sub b) (x0 : 0 < x) (y0 : 0 < y) (hx : Rg (x * x - r.dot r) (7011 / 1000 * u24 * r.dot r)) (hy : Rg (y * y - s.dot s) (7011 / 1000 * u24 * s.dot s)) (R9 : r.dot r ≤ 119) (S9 : s.dot s ≤ 119) :
    (r.sub s).dot (r.sub s) + 39 / 1000 ≤ (x + y) * (x + y) := by
  have hu : u24 = 1 / 16777216 := rfl
  have g0 : 0 < x + y := by grind
  obtain ⟨i, hi⟩ : ∃ i, i * (x + y) = 1 := ⟨1 / (x + y), by rw [Rat.div_mul_cancel]; intro h; rw [h] at g0; exact absurd g0 (by decide)⟩
  have i0 : 0 ≤ i := Rat.le_of_mul_le_mul_right (c := x + y) (by rw [Rat.zero_mul, hi]; decide) g0
  have h := chord C hF (t := i * y) (u := i * x) (Rat.mul_nonneg i0 (Rat.le_of_lt y0)) (Rat.mul_nonneg i0 (Rat.le_of_lt x0)) (by grind)
  have e1 : p.sub ((a.sm (i * y)).add (b.sm (i * x))) = ((r.sm y).add (s.sm x)).sm i := by
    rw [hr, hs]
    apply R3.ext'
    · show p.x - (i * y * a.x + i * x * b.x) = i * (y * (p.x - a.x) + x * (p.x - b.x))
      have : p.x = i * (x + y) * p.x := by rw [hi, Rat.one_mul]
      grind
    · show p.y - (i * y * a.y + i * x * b.y) = i * (y * (p.y - a.y) + x * (p.y - b.y))
      have : p.y = i * (x + y) * p.y := by rw [hi, Rat.one_mul]
      grind
    · show p.z - (i * y * a.z + i * x * b.z) = i * (y * (p.z - a.z) + x * (p.z - b.z))
      have : p.z = i * (x + y) * p.z := by rw [hi, Rat.one_mul]
      grind
  obtain ⟨N, hN⟩ : ∃ N, N = ((r.sm y).add (s.sm x)).dot ((r.sm y).add (s.sm x)) := ⟨_, rfl⟩
  have e2 : (((r.sm y).add (s.sm x)).sm i).dot (((r.sm y).add (s.sm x)).sm i) = i * i * N := by rw [hN]; unfold R3.dot R3.sm; grind
  rw [e1, e2] at h
  obtain ⟨Q, hQ⟩ : ∃ Q, Q = (x + y) * (x + y) := ⟨_, rfl⟩
  have Q0 : 0 < Q := by rw [hQ]; exact Rat.mul_pos g0 g0
  have iQ : i * i * Q = 1 := by
    have : i * i * Q = i * (x + y) * (i * (x + y)) := by rw [hQ]; grind
    rw [this, hi]; decide +kernel
  have hNQ : 999 / 10000 * (999 / 10000) * Q ≤ N := by
    have := Rat.mul_le_mul_of_nonneg_right h (Rat.le_of_lt Q0)
    have e3 : i * i * N * Q = i * i * Q * N := by grind
    rw [e3, iQ] at this
    grind
  obtain ⟨L, hL⟩ : ∃ L, L = (r.sub s).dot (r.sub s) := ⟨_, rfl⟩
  rw [← hL, ← hQ]
  have L0 : 0 ≤ L := by rw [hL]; exact dot_nn _
  obtain ⟨R, hR⟩ : ∃ R, R = r.dot r := ⟨_, rfl⟩
  obtain ⟨S, hS⟩ : ∃ S, S = s.dot s := ⟨_, rfl⟩
  have eN : N = y * y * R + x * x * S + x * y * (R + S - L) := by rw [hN, hR, hS, hL]; unfold R3.dot R3.add R3.sm R3.sub; grind
  rw [← hR] at hx R9
  rw [← hS] at hy S9
  obtain ⟨x1, x2⟩ := hx
  obtain ⟨y1, y2⟩ := hy
  rw [hu] at x1 x2 y1 y2
  have R0 : 0 ≤ R := by rw [hR]; exact dot_nn _
  have S0 : 0 ≤ S := by rw [hS]; exact dot_nn _
  have xx := Rat.mul_pos x0 x0
  have yy := Rat.mul_pos y0 y0
  have xy := Rat.mul_pos x0 y0
  have Rx : R ≤ x * x * (1 + 1 / 2000000) := by grind
  have Sy : S ≤ y * y * (1 + 1 / 2000000) := by grind
  have xS : x * x ≤ 120 := by grind
  have yS : y * y ≤ 120 := by grind
  have m1 := Rat.mul_le_mul_of_nonneg_left Rx (Rat.le_of_lt yy)
  have m2 := Rat.mul_le_mul_of_nonneg_left Sy (Rat.le_of_lt xx)
  have m3 := Rat.mul_le_mul_of_nonneg_left (show R + S ≤ (x * x + y * y) * (1 + 1 / 2000000) by grind) (Rat.le_of_lt xy)
  have hb : N ≤ x * y * (Q * (1 + 1 / 2000000) - L) := by
    rw [eN, hQ]
    have : y * y * (x * x * (1 + 1 / 2000000)) = x * y * (x * y * (1 + 1 / 2000000)) := by grind
    have : x * x * (y * y * (1 + 1 / 2000000)) = x * y * (x * y * (1 + 1 / 2000000)) := by grind
    grind
  have q4 : 4 * (x * y) ≤ Q := by rw [hQ]; have := sq_nn (x - y); grind
  have Q9 : Q ≤ 480 := by rw [hQ]; have := sq_nn (x - y); grind
  obtain ⟨B, hB⟩ : ∃ B, B = Q * (1 + 1 / 2000000) - L := ⟨_, rfl⟩
  rw [← hB] at hb
  have B0 : 0 ≤ B := by
    refine Rat.le_of_mul_le_mul_left (c := x * y) ?_ xy
    rw [Rat.mul_zero]; grind
  have k1 := Rat.mul_le_mul_of_nonneg_right q4 B0
  have k2 : 999 / 10000 * (999 / 10000) * 4 ≤ B := by
    refine Rat.le_of_mul_le_mul_left (c := Q) ?_ Q0
    grind
  rw [hB] at k2
  grind
/-- What an edge makes at a far place. -/
structure Eo (P : V3) (p a b : R3) (wa wb : V3) (q : Rat) (c f : R3) : Prop where
  hf : qv3 (segF wa wb P) f.x f.y f.z
  q0 : 76 / 100000 ≤ q
  q9 : q ≤ 5600
  hc : nb (c.sub ((p.sub a).cr (p.sub b))) (41 / 1000000)
  β : nb c (566 / 100)
  T : nb (c.sm q) 56
  fT : nb (f.sub (c.sm q)) (u24 * (q * (566 / 100)) + 3 * tn)
theorem eo_q {x y H Λ L q : Rat} (x0 : 0 < x) (y0 : 0 < y) (x8 : 997 / 10000 ≤ x) (y8 : 997 / 10000 ≤ y) (x9 : x ≤ 10907 / 1000) (y9 : y ≤ 10907 / 1000) (L0 : 0 ≤ L) (L9 : L ≤ 268 / 1000) (hH : L + 39 / 1000 ≤ H) (eH : H = (x + y) * (x + y)) (hΛ : Rg (Λ - L) (76 / 10 * u24 * H)) (q0 : 0 ≤ q) (hq : Rg (q * (x * y * (H - Λ)) - 2 * (x + y)) (62 / 10 * u24 * (2 * (x + y)))) :
    76 / 100000 ≤ q ∧ q ≤ 5600 ∧ q * (x * y) ≤ 55 := by
  have hu : u24 = 1 / 16777216 := rfl
  rw [hu] at hΛ hq
  obtain ⟨Λ1, Λ2⟩ := hΛ
  obtain ⟨q1, q2⟩ := hq
  obtain ⟨g, hg⟩ : ∃ g, g = x + y := ⟨_, rfl⟩
  obtain ⟨m, hm⟩ : ∃ m, m = x * y := ⟨_, rfl⟩
  rw [← hg] at eH q1 q2
  rw [← hm] at q1 q2 ⊢
  have g0 : 0 < g := by grind
  have m0 : 0 < m := by rw [hm]; exact Rat.mul_pos x0 y0
  have g9 : g ≤ 21814 / 1000 := by grind
  have H9 : H ≤ 476 := by
    have := rsq_mono (Rat.le_of_lt g0) g9
    rw [eH]; grind
  have m9 : m ≤ 118963 / 1000 := by
    have k1 := Rat.mul_le_mul_of_nonneg_right x9 (Rat.le_of_lt y0)
    rw [hm]; grind
  have m8 : 994 / 100000 ≤ m := by
    have k1 := Rat.mul_le_mul_of_nonneg_right x8 (Rat.le_of_lt y0)
    rw [hm]; grind
  obtain ⟨K, hK⟩ : ∃ K, K = H - Λ := ⟨_, rfl⟩
  rw [← hK] at q1 q2
  have H0 : 0 < H := by rw [eH]; exact Rat.mul_pos g0 g0
  have K8 : 38 / 1000 ≤ K := by grind
  have K9 : K ≤ H * (1 + 1 / 2000000) := by grind
  have qm0 : 0 ≤ q * m := Rat.mul_nonneg q0 (Rat.le_of_lt m0)
  have eqm : q * (m * K) = q * m * K := by grind
  rw [eqm] at q1 q2
  -- from below
  have lo : 19999 / 10000 ≤ q * m * g := by
    have k1 := Rat.mul_le_mul_of_nonneg_left K9 qm0
    refine Rat.le_of_mul_le_mul_right (c := g) ?_ g0
    have e : q * m * g * g = q * m * H := by rw [eH]; grind
    rw [e]; grind
  have mg : m * g ≤ 2596 := by
    have k1 := Rat.mul_le_mul_of_nonneg_right m9 (Rat.le_of_lt g0)
    grind
  have lo2 := Rat.mul_le_mul_of_nonneg_left mg q0
  have hi : q * m ≤ 55 := by
    rcases (Rat.le_total : g ≤ 104 / 100 ∨ 104 / 100 ≤ g) with k | k
    · have k1 := Rat.mul_le_mul_of_nonneg_left K8 qm0
      grind
    · have gg := rsq_mono (show (0 : Rat) ≤ 104 / 100 by decide +kernel) k
      have K7 : 74 / 100 * H ≤ K := by rw [← eH] at gg; grind
      have k1 := Rat.mul_le_mul_of_nonneg_left K7 qm0
      have e : q * m * (74 / 100 * H) = 74 / 100 * (q * m * g) * g := by rw [eH]; grind
      have k2 : 74 / 100 * (q * m * g) ≤ 2001 / 1000 := by
        refine Rat.le_of_mul_le_mul_right (c := g) ?_ g0
        rw [← e]; grind
      have k3 := Rat.mul_le_mul_of_nonneg_left k qm0
      grind
  refine ⟨by grind, ?_, hi⟩
  have k1 := Rat.mul_le_mul_of_nonneg_left m8 q0
  grind
theorem edge_far {P wa wb : V3} (C : Co a b) (hP : qv3 P p.x p.y p.z) (ha : qv3 wa a.x a.y a.z) (hb : qv3 wb b.x b.y b.z) (hF : Far p (1 / 10)) (hn : nb p (99055 / 10000)) : ∃ (q : Rat) (c f : R3), Eo P p a b wa wb q c f := by
  have hu : u24 = 1 / 16777216 := rfl
  have an : nb a (1000001 / 1000000) := ⟨by decide +kernel, by have := C.A.2; grind⟩
  have bn : nb b (1000001 / 1000000) := ⟨by decide +kernel, by have := C.B.2; grind⟩
  obtain ⟨r, hr⟩ : ∃ r, r = p.sub a := ⟨_, rfl⟩
  obtain ⟨s, hs⟩ : ∃ s, s = p.sub b := ⟨_, rfl⟩
  have rn : nb r (109056 / 10000) := by rw [hr]; exact (hn.sub an).mono (by decide +kernel)
  have sn : nb s (109056 / 10000) := by rw [hs]; exact (hn.sub bn).mono (by decide +kernel)
  obtain ⟨f1, f2⟩ := far_co C hF
  rw [← hr] at f1
  rw [← hs] at f2
  have R9 : r.dot r ≤ 119 := Rat.le_trans rn.2 (by decide +kernel)
  have S9 : s.dot s ≤ 119 := Rat.le_trans sn.2 (by decide +kernel)
  have df : ∀ {w : V3} {d v : R3}, qv3 w d.x d.y d.z → v = p.sub d → nb v 16 → Df (sub3 P w) v := by
    intro w d v hw hv hn
    have hc := nb_x hn
    have big : ∀ {t : Rat}, Rg t 16 → Rg t 1000000000000000000 := fun h => h.mono (by decide +kernel)
    have ex : p.x - d.x = v.x := by rw [hv]; rfl
    have ey : p.y - d.y = v.y := by rw [hv]; rfl
    have ez : p.z - d.z = v.z := by rw [hv]; rfl
    obtain ⟨u, u1, u2⟩ := rl_sub hP.x hw.x (by rw [ex]; exact big hc.1)
    obtain ⟨t, v1, v2⟩ := rl_sub hP.y hw.y (by rw [ey]; exact big hc.2.1)
    obtain ⟨w, w1, w2⟩ := rl_sub hP.z hw.z (by rw [ez]; exact big hc.2.2)
    rw [ex] at u2
    rw [ey] at v2
    rw [ez] at w2
    exact ⟨⟨u, t, w, ⟨u1, v1, w1⟩, u2, v2, w2⟩, ab_le hc.1, ab_le hc.2.1, ab_le hc.2.2⟩
  have r1 := df ha hr (rn.mono (by decide +kernel))
  have s1 := df hb hs (sn.mono (by decide +kernel))
  obtain ⟨x, y, x0, y0, hx, hy, h⟩ := seg_rel r1 s1 (by grind) (by grind) (by grind) (by grind)
  have hH := far_edge C hF hr hs x0 y0 hx hy R9 S9
  have eL : r.sub s = (a.sub b).sm (-1) := by rw [hr, hs]; apply R3.ext' <;> (unfold R3.sub R3.sm; grind)
  have L9 : (r.sub s).dot (r.sub s) ≤ 268 / 1000 := by
    have := C.L
    have e : ((a.sub b).sm (-1)).dot ((a.sub b).sm (-1)) = (a.sub b).dot (a.sub b) := by unfold R3.dot R3.sm; grind
    rw [eL, e]; grind
  have rsn : nb (s.sub r) (5177 / 10000) := ⟨by decide +kernel, by
    have := C.L
    have e : (s.sub r).dot (s.sub r) = (r.sub s).dot (r.sub s) := by unfold R3.dot R3.sub; grind
    have e2 : ((a.sub b).sm (-1)).dot ((a.sub b).sm (-1)) = (a.sub b).dot (a.sub b) := by unfold R3.dot R3.sm; grind
    rw [e, eL, e2]; grind⟩
  obtain ⟨x1, x2⟩ := hx
  obtain ⟨y1, y2⟩ := hy
  rw [hu] at x1 x2 y1 y2
  have R9' := rn.2
  have S9' := sn.2
  have x9 : x ≤ 10907 / 1000 := rsq_le (by decide +kernel) (by grind)
  have y9 : y ≤ 10907 / 1000 := rsq_le (by decide +kernel) (by grind)
  have x8 : 997 / 10000 ≤ x := rsq_le (Rat.le_of_lt x0) (by grind)
  have y8 : 997 / 10000 ≤ y := rsq_le (Rat.le_of_lt y0) (by grind)
  have H9 : (x + y) * (x + y) ≤ 476 := by
    have := rsq_mono (show 0 ≤ x + y by grind) (show x + y ≤ 21814 / 1000 by grind)
    grind
  obtain ⟨q, Λ, c, f, k1, k2, k3, k4, k5, k6, k7⟩ := h (by rw [hu]; grind)
  obtain ⟨q8, q9, qm⟩ := eo_q x0 y0 x8 y8 x9 y9 (dot_nn _) L9 hH rfl k4 k2 k5
  have xy0 := Rat.mul_pos x0 y0
  have xy9 : x * y ≤ 119 := by
    have k1 := Rat.mul_le_mul_of_nonneg_right x9 (Rat.le_of_lt y0)
    grind
  have hc : nb (c.sub (r.cr s)) (41 / 1000000) := k6.mono (by rw [hu]; grind)
  have cr1 : r.cr s = r.cr (s.sub r) := by apply R3.ext' <;> (unfold R3.cr R3.sub; grind)
  have cn : nb (r.cr s) (5646 / 1000) := by rw [cr1]; exact (rn.cr rsn).mono (by decide +kernel)
  have β := (hc.from cn).mono (B := 566 / 100) (by decide +kernel)
  -- how great it is
  have cm : nb (r.cr s) (x * y * (1 + 1 / 1000000)) := by
    refine ⟨by grind, ?_⟩
    have a1 := lagrange r s
    have a2 := sq_nn (r.dot s)
    have R0 := dot_nn r
    have S0 := dot_nn s
    have b1 : r.dot r ≤ x * x * (1 + 1 / 2000000) := by grind
    have b2 : s.dot s ≤ y * y * (1 + 1 / 2000000) := by grind
    have xx := Rat.mul_pos x0 x0
    have b3 := Rat.mul_le_mul_of_nonneg_right b1 S0
    have b4 := Rat.mul_le_mul_of_nonneg_left b2 (show 0 ≤ x * x * (1 + 1 / 2000000) by grind)
    have e : x * x * (1 + 1 / 2000000) * (y * y * (1 + 1 / 2000000)) = x * y * (1 + 1 / 2000000) * (x * y * (1 + 1 / 2000000)) := by grind
    have b5 := rsq_mono (show 0 ≤ x * y * (1 + 1 / 2000000) by grind) (show x * y * (1 + 1 / 2000000) ≤ x * y * (1 + 1 / 1000000) by grind)
    grind
  have cm2 := (k6.from cm).mono (B := x * y * (1 + 1 / 100000)) (by rw [hu]; grind)
  refine ⟨q, c, f, ⟨k1, q8, q9, by rw [← hr, ← hs]; exact hc, β, ?_, k7 _ β (by decide +kernel)⟩⟩
  refine (cm2.sm (k := q) (K := q) ⟨by grind, Rat.le_refl⟩).mono ?_
  grind
end
end Go.Proofs.Ytfkblhlkeglilaa

namespace Go.Proofs.Ytfkblhlkeglilaa
open Go.RowKit R3 Mt
set_option maxRecDepth 20000
attribute [local irreducible] D9 D7 UU WW W9 segF fop
theorem SumV_dot {T : Nat → R3} {q : Nat → Rat} {v : R3} {c : Rat} : ∀ {n : Nat}, (∀ k, k < n → q k * c ≤ (T k).dot v) → SumR q n * c ≤ (SumV T n).dot v
  | 0, _ => by
    show 0 * c ≤ R3.zero.dot v
    unfold R3.dot R3.zero; grind
  | n + 1, h => by
    have i := SumV_dot (n := n) fun k hk => h k (by omega)
    have j := h n (by omega)
    have e : (SumV T (n + 1)).dot v = (SumV T n).dot v + (T n).dot v := by
      show ((SumV T n).add (T n)).dot v = _
      unfold R3.dot R3.add; grind
    have e2 : SumR q (n + 1) = SumR q n + q n := rfl
    rw [e, e2]; grind
theorem SumR_mul (q : Nat → Rat) (c : Rat) : ∀ n : Nat, SumR (fun k => q k * c) n = SumR q n * c
  | 0 => by show (0 : Rat) = 0 * c; grind
  | n + 1 => by
    show SumR (fun k => q k * c) n + q n * c = (SumR q n + q n) * c
    rw [SumR_mul q c n]; grind
theorem SumR_bd {b : Nat → Rat} {l h : Rat} : ∀ {n : Nat}, (∀ k, k < n → l ≤ b k ∧ b k ≤ h) → (n : Rat) * l ≤ SumR b n ∧ SumR b n ≤ (n : Rat) * h
  | 0, _ => by
    show (0 : Rat) * l ≤ 0 ∧ (0 : Rat) ≤ 0 * h
    constructor <;> grind
  | n + 1, H => by
    obtain ⟨i1, i2⟩ := SumR_bd (n := n) fun k hk => H k (by omega)
    obtain ⟨j1, j2⟩ := H n (by omega)
    have e : SumR b (n + 1) = SumR b n + b n := rfl
    rw [e, Rat.natCast_add, c1n]
    constructor <;> grind
theorem eds_mem {k : Nat} (hk : k < 12) : eds.getD k e00 ∈ eds := by
  have h : k < eds.length := hk
  rw [List.getD_eq_getElem?_getD, List.getElem?_eq_getElem h, Option.getD_some]
  exact List.getElem_mem _
theorem cr_dot {p a b : R3} (az : a.z = 0) (bz : b.z = 0) : ((p.sub a).cr (p.sub b)).dot p = p.z * (a.x * b.y - a.y * b.x) := by
  unfold R3.dot R3.cr R3.sub
  simp only
  rw [az, bz]; grind
section
variable {L : List V3} {P : V3} {p : R3}
theorem high_dir (hL : Ring12 L) (hP : qv3 P p.x p.y p.z) (hB : Box p) (hF : Far p (1 / 10)) {σ : Rat} (hσ : σ = 1 ∨ σ = -1) (hz : 1 / 200 ≤ σ * p.z) : ∃ D : R3, qv3 (dirI (RW L) P) D.x D.y D.z ∧ One D := by
  have hn := hB.n
  have up : ∀ {w : V3} {A : R3}, qv3 w (A.x * (1 / io)) (A.y * (1 / io)) (A.z * (1 / io)) → qv3 w (A.sm (1 / io)).x (A.sm (1 / io)).y (A.sm (1 / io)).z := by
    intro w A h
    show qv3 w (1 / io * A.x) (1 / io * A.y) (1 / io * A.z)
    rw [Rat.mul_comm (1 / io), Rat.mul_comm (1 / io), Rat.mul_comm (1 / io)]
    exact h
  obtain ⟨o, ho⟩ := skol (α := Ou) (n := 12) ⟨0, R3.zero, R3.zero, R3.zero, 0⟩ (R := fun k t => Eo P p ((cA (eds.getD k e00)).sm (1 / io)) ((cB (eds.getD k e00)).sm (1 / io)) (segA (L, true, 1065353216) k) (segB (L, true, 1065353216) k) t.q t.c t.f) (fun k hk => by
    have hm := eds_mem hk
    obtain ⟨q, c, f, h⟩ := edge_far (oc_of (eds_ok _ hm) (eds_c _ hm)) hP (up (hL.vA k hk)) (up (hL.vB k hk)) hF hn
    exact ⟨⟨q, c, R3.zero, f, 0⟩, h⟩)
  have hu : u24 = 1 / 16777216 := rfl
  have ht : tn ≤ 1 / 10000000000000000000000000000000 := by decide +kernel
  obtain ⟨Q, hQ⟩ : ∃ Q, Q = SumR (fun k => (o k).q) 12 := ⟨_, rfl⟩
  have hQ2 := SumR_bd (b := fun k => (o k).q) (l := 76 / 100000) (h := 5600) (n := 12) fun k hk => ⟨(ho k hk).q0, (ho k hk).q9⟩
  have c12 : ((12 : Nat) : Rat) = 12 := rfl
  rw [← hQ, c12] at hQ2
  obtain ⟨Q1, Q2⟩ := hQ2
  have eB := SumR_mul (fun k => (o k).q) (566 / 100) 12
  rw [← hQ] at eB
  obtain ⟨F, f1, f2⟩ := ring_rel (p := P) (T := fun k => (o k).c.sm (o k).q) (b := fun k => (o k).q * (566 / 100)) hL.n (fun k hk => ⟨(o k).f, (ho k hk).hf, (ho k hk).fT, (ho k hk).β.sm (k := (o k).q) (K := (o k).q) ⟨by have := (ho k hk).q0; grind, Rat.le_refl⟩⟩) (by rw [eB]; grind)
  rw [eB] at f2
  have hT := SumV_nb (T := fun k => (o k).c.sm (o k).q) (b := fun _ => 56) (n := 12) fun k hk => (ho k hk).T
  have e56 := (SumR_bd (b := fun _ => 56) (l := 56) (h := 56) (n := 12) fun _ _ => ⟨Rat.le_refl, Rat.le_refl⟩).2
  rw [c12] at e56
  have hi : nb F 700 := (f2.from hT).mono (by rw [hu]; grind)
  -- along the place
  obtain ⟨v, hv⟩ : ∃ v, v = p.sm σ := ⟨_, rfl⟩
  have σσ : σ * σ = 1 := by rcases hσ with h | h <;> (rw [h]; decide +kernel)
  have evv : v.dot v = p.dot p := by
    have : v.dot v = σ * σ * p.dot p := by rw [hv]; unfold R3.dot R3.sm; grind
    rw [this, σσ, Rat.one_mul]
  have vn : nb v (99055 / 10000) := ⟨hn.1, by rw [evv]; exact hn.2⟩
  have hdot := SumV_dot (T := fun k => (o k).c.sm (o k).q) (q := fun k => (o k).q) (v := v) (c := 209 / 100000) (n := 12) fun k hk => by
    have H := ho k hk
    have hm := eds_mem hk
    have C := oc_of (eds_ok _ hm) (eds_c _ hm)
    have h0 := H.hc
    generalize (cA (eds.getD k e00)).sm (1 / io) = a at *
    generalize (cB (eds.getD k e00)).sm (1 / io) = b at *
    have h1 := dot_le h0 vn
    have h2 := cr_dot (p := p) C.az C.bz
    have h3 : ((p.sub a).cr (p.sub b)).dot v = σ * p.z * (a.x * b.y - a.y * b.x) := by
      have : ((p.sub a).cr (p.sub b)).dot v = σ * ((p.sub a).cr (p.sub b)).dot p := by rw [hv]; unfold R3.dot R3.sm; grind
      rw [this, h2]; grind
    have h4 : (o k).c.dot v = ((p.sub a).cr (p.sub b)).dot v + ((o k).c.sub ((p.sub a).cr (p.sub b))).dot v := by
      generalize (p.sub a).cr (p.sub b) = w
      unfold R3.dot R3.sub; grind
    have h5 := Rat.mul_le_mul_of_nonneg_right hz (show 0 ≤ a.x * b.y - a.y * b.x by have := C.c; grind)
    have h6 : 209 / 100000 ≤ (o k).c.dot v := by
      obtain ⟨g1, _⟩ := h1
      have := C.c
      rw [h4, h3]; grind
    have h7 : ((o k).c.sm (o k).q).dot v = (o k).q * (o k).c.dot v := by unfold R3.dot R3.sm; grind
    show (o k).q * (209 / 100000) ≤ ((o k).c.sm (o k).q).dot v
    rw [h7]
    exact Rat.mul_le_mul_of_nonneg_left h6 (by have := H.q0; grind)
  rw [← hQ] at hdot
  obtain ⟨g1, _⟩ := dot_le f2 vn
  have eF : F.dot v = (SumV (fun k => (o k).c.sm (o k).q) 12).dot v + (F.sub (SumV (fun k => (o k).c.sm (o k).q) 12)).dot v := by
    generalize SumV (fun k => (o k).c.sm (o k).q) 12 = w
    unfold R3.dot R3.sub; grind
  have hFv : 18 / 1000000 ≤ F.dot v := by
    rw [eF]
    rw [hu] at g1
    grind
  have hc := cauchy F v
  have h2 := rsq_mono (show (0 : Rat) ≤ 18 / 1000000 by decide +kernel) hFv
  have v9 := vn.2
  have FF := dot_nn F
  have h3 := Rat.mul_le_mul_of_nonneg_left v9 FF
  obtain ⟨D, l, d1, _, d2, d3⟩ := dir_rel f1 (by grind) (Rat.le_trans hi.2 (by decide +kernel))
  exact ⟨D, d1, one_of d2 d3⟩
theorem evw_all (hL : Ring12 L) (hT : SlabT) : Evw L := by
  intro P p hP hB hF
  rcases (Rat.le_total : 1 / 200 ≤ p.z ∨ p.z ≤ 1 / 200) with h | h
  · exact high_dir hL hP hB hF (σ := 1) (.inl rfl) (by grind)
  rcases (Rat.le_total : p.z ≤ -(1 / 200) ∨ -(1 / 200) ≤ p.z) with g | g
  · exact high_dir hL hP hB hF (σ := -1) (.inr rfl) (by grind)
  · exact slab_dir hL hT hP hB hF ⟨g, h⟩
end
end Go.Proofs.Ytfkblhlkeglilaa
