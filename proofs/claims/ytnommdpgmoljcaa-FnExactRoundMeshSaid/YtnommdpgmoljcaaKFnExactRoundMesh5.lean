/- Own texts of this claim, merged: WUnB, UnpF, UnpG, WUnI, WUnS, WDesign, WFlat, WLine, Fine, MarkW. -/
import Derived.KernelRfl
import Derived.Test.YtnommdpgmoljcaaKFnExactRoundMesh4
namespace Go.Proofs.Ytnommdpgmoljcaa
open Go.RowKit
set_option linter.unusedVariables false
set_option linter.unusedSimpArgs false
set_option maxRecDepth 20000

theorem mixed_UnB : Try.prog.follows .mixedOrders = true := by kernel_rfl
theorem fb9_UnB : flatB Try.prog 9 = true := by kernel_rfl
theorem fb86_UnB : flatB Try.prog 86 = true := by kernel_rfl
theorem sz23_UnB : (Try.prog.info? 23).map (·.size) = some 1 := by kernel_rfl
theorem fb23_UnB : flatB Try.prog 23 = true := by kernel_rfl
attribute [local irreducible] fop fcmp fconv fneg fabs List.getD sb rd4 rd2 q16

theorem c_unOne {w : World} {s : ByteArray} {p q1 q4 cr : Nat} {ar : Option Addr} {xs : List Nat} (hS : Cl w (some ⟨q1, 0, none⟩) [.string s]) (hL : Cl w (some ⟨q4, 0, none⟩) [.slice ar 5 cr]) (hF : Cl w ar (fl xs)) (h5 : xs.length = 5) (hp : p + 1 < s.size) (hp2 : p ≤ 100000) : New Try.prog 56 [.int .i64 (p : Int), .pointer (some (adr (some ⟨q1, 0, none⟩) 0)), .pointer (some (adr (some ⟨q4, 0, none⟩) 0))] w (fun v : {v : Nat // Nar (unX (xs.getD 4 0) (q16 (rd2 s p))) v} => .float .f32 v.1) (fun _ => []) := by
  refine New.enter Try.func56 rfl Try.ntmps56 (Nat.le_of_ble_eq_true rfl) ?_
  have hb0 := sb_lt s p
  have hb1 := sb_lt s (p + 1)
  have hr2 := rd2_lt s p
  refine V.seq ?_
  refine V.region ?_
  refine VL.r (.inl rfl) rfl (by decide) (yr_assign (u := .float .f32 0) rfl rfl) ?_
  refine VL.nil ?_
  refine VE.then_wp ?_
  refine V.seq ?_
  refine Dr.V.drawR [(0, 5), (1, 5), (2, 5), (3, 5), (4, 5), (5, 5), (6, 5), (7, 5), (8, 5), (9, 5), (10, 5), (11, 5), (12, 5)] [] [] _ mixed_UnB (by kernel_rfl) (fun w hw => hw) ?_
  refine Dr.SW.p rfl (.inl rfl) rfl (by decide) (yq_load rfl fb9_UnB rfl (by first | exact Sees.root (by assumption) | exact Sees.own (by (try simp only [List.append_assoc, List.cons_append, List.nil_append]); repeat (first | exact List.mem_cons_self | exact List.mem_append_left _ (by assumption) | apply List.mem_cons_of_mem | apply List.mem_append_right)) | exact Sees.root (hR _ (by omega)) | exact Sees.own (RowsIn.mem (by (try simp only [List.append_assoc, List.cons_append, List.nil_append]); repeat (first | exact RowsIn.here | exact RowsIn.last | apply RowsIn.there | apply RowsIn.thereS)) _ (by omega)) | exact Sees.own (WRowsIn.mem (by (try simp only [List.append_assoc, List.cons_append, List.nil_append]); repeat (first | exact WRowsIn.here | exact WRowsIn.last | apply WRowsIn.there | apply WRowsIn.thereS)) _ (by omega))) rfl) ?_
  refine Dr.SW.r rfl (.inl rfl) rfl (by decide) (yr_move rfl rfl) ?_
  refine Dr.SW.r rfl (.inl rfl) rfl (by decide) (yr_strByte (i := p) rfl Try.underlying9 rfl rfl (by first | rfl | omega | (push_cast; rfl) | (push_cast; omega)) (by omega)) ?_
  refine Dr.SW.r rfl (.inl rfl) rfl (by decide) (yr_intConv (r := (sb s p : Int)) rfl Try.underlying5 Try.underlying89 rfl (u16_nat (by omega))) ?_
  refine Dr.SW.p rfl (.inl rfl) rfl (by decide) (yq_load rfl fb9_UnB rfl (by first | exact Sees.root (by assumption) | exact Sees.own (by (try simp only [List.append_assoc, List.cons_append, List.nil_append]); repeat (first | exact List.mem_cons_self | exact List.mem_append_left _ (by assumption) | apply List.mem_cons_of_mem | apply List.mem_append_right)) | exact Sees.root (hR _ (by omega)) | exact Sees.own (RowsIn.mem (by (try simp only [List.append_assoc, List.cons_append, List.nil_append]); repeat (first | exact RowsIn.here | exact RowsIn.last | apply RowsIn.there | apply RowsIn.thereS)) _ (by omega)) | exact Sees.own (WRowsIn.mem (by (try simp only [List.append_assoc, List.cons_append, List.nil_append]); repeat (first | exact WRowsIn.here | exact WRowsIn.last | apply WRowsIn.there | apply WRowsIn.thereS)) _ (by omega))) rfl) ?_
  refine Dr.SW.r rfl (.inl rfl) rfl (by decide) (yr_move rfl rfl) ?_
  refine Dr.SW.r rfl (.inl rfl) rfl (by decide) (yr_int rfl rfl rfl (.inl ⟨rfl, wrap_in (by omega)⟩)) ?_
  refine Dr.SW.r rfl (.inl rfl) rfl (by decide) (yr_strByte (i := (p + 1)) rfl Try.underlying9 rfl rfl (by first | rfl | omega | (push_cast; rfl) | (push_cast; omega)) (by omega)) ?_
  refine Dr.SW.r rfl (.inl rfl) rfl (by decide) (yr_intConv (r := (sb s (p + 1) : Int)) rfl Try.underlying5 Try.underlying89 rfl (u16_nat (by omega))) ?_
  refine Dr.SW.r rfl (.inl rfl) rfl (by decide) (yr_shl (b := 8) (r := ((sb s (p + 1) * 2 ^ 8 : Nat) : Int)) rfl rfl rfl (shl_16 (by decide) (by omega))) ?_
  refine Dr.SW.r rfl (.inl rfl) rfl (by decide) (yr_bits (r := ((rd2 s p : Nat) : Int)) rfl rfl rfl (.inr ⟨rfl, or_16 (n := 8) (by omega) (by unfold rd2; omega) (by omega)⟩)) ?_
  refine Dr.SW.r rfl (.inl rfl) rfl (by decide) (yr_intConv (r := q16 (rd2 s p)) rfl Try.underlying89 Try.underlying88 rfl (q16_wrap (by omega))) ?_
  refine Dr.SW.r rfl (.inl rfl) rfl (by decide) (yr_assign rfl rfl) ?_
  refine Dr.SW.done ?_
  refine Dr.eqO (by simp only [List.append_nil, List.append_assoc, List.cons_append, List.nil_append] <;> rfl) ?_
  refine VE.then_wp ?_
  refine V.seq ?_
  refine V.region ?_
  refine VL.q (.inl rfl) rfl (by decide) (yq_load rfl fb86_UnB rfl (by first | exact Sees.root (by assumption) | exact Sees.own (by repeat (first | exact List.mem_cons_self | exact List.mem_append_left _ (by assumption) | apply List.mem_cons_of_mem | apply List.mem_append_right)) | exact Sees.root (hR _ (by omega)) | exact Sees.own (RowsIn.mem (by repeat (first | exact RowsIn.here | exact RowsIn.last | apply RowsIn.there | apply RowsIn.thereS)) _ (by omega)) | exact Sees.own (WRowsIn.mem (by repeat (first | exact WRowsIn.here | exact WRowsIn.last | apply WRowsIn.there | apply WRowsIn.thereS)) _ (by omega))) rfl) ?_
  refine VL.q (.inl rfl) rfl (by decide) (yq_idx (k := 4) rfl Try.underlying86 sz23_UnB rfl rfl (by first | exact Sees.root (by assumption) | exact Sees.own (by repeat (first | exact List.mem_cons_self | exact List.mem_append_left _ (by assumption) | apply List.mem_cons_of_mem | apply List.mem_append_right)) | exact Sees.root (hR _ (by omega)) | exact Sees.own (RowsIn.mem (by repeat (first | exact RowsIn.here | exact RowsIn.last | apply RowsIn.there | apply RowsIn.thereS)) _ (by omega)) | exact Sees.own (WRowsIn.mem (by repeat (first | exact WRowsIn.here | exact WRowsIn.last | apply WRowsIn.there | apply WRowsIn.thereS)) _ (by omega))) (by first | rfl | omega | (push_cast; rfl) | (push_cast; omega) | exact tmod_nat _ _) (by rw [fl_length]; exact h5) (by omega)) ?_
  refine VL.q (.inl rfl) rfl (by decide) (yq_loadF rfl fb23_UnB rfl (by first | exact Sees.root (by assumption) | exact Sees.own (by repeat (first | exact List.mem_cons_self | exact List.mem_append_left _ (by assumption) | apply List.mem_cons_of_mem | apply List.mem_append_right)) | exact Sees.root (hR _ (by omega)) | exact Sees.own (RowsIn.mem (by repeat (first | exact RowsIn.here | exact RowsIn.last | apply RowsIn.there | apply RowsIn.thereS)) _ (by omega)) | exact Sees.own (WRowsIn.mem (by repeat (first | exact WRowsIn.here | exact WRowsIn.last | apply WRowsIn.there | apply WRowsIn.thereS)) _ (by omega))) (by omega)) ?_
  refine VL.r (.inl rfl) rfl (by decide) (yr_fconv rfl Try.underlying23 Try.underlying56 (by decide) rfl (fover_up _)) ?_
  refine VL.r (.inl rfl) rfl (by decide) (yr_move rfl rfl) ?_
  refine VL.r (.inl rfl) rfl (by decide) (yr_ofInt rfl Try.underlying88 Try.underlying56 rfl) ?_
  refine VL.r (.inl rfl) rfl (by decide) (yr_float (b := 4674736138332667904) rfl (.inr (.inr (.inr rfl))) rfl rfl) ?_
  refine VL.r (.inl rfl) rfl (by decide) (yr_float rfl (.inr (.inr (.inl rfl))) rfl rfl) ?_
  refine VL.new (.inl rfl) rfl (by decide) (yn_narrow rfl Try.underlying56 Try.underlying23 rfl) ?_
  rintro ⟨v26, hv26⟩
  refine VL.r (.inl rfl) rfl (by decide) (yr_assign rfl rfl) ?_
  refine VL.nil ?_
  refine VE.then_wp ?_
  refine V.ret ?_
  refine ret1 rfl rfl (fun w1 hw => ?_)
  exact ⟨⟨v26, hv26⟩, rfl, hw.below, (fun _ h => by cases h), List.Pairwise.nil⟩

end Go.Proofs.Ytnommdpgmoljcaa


namespace Go.Proofs.Ytnommdpgmoljcaa
open Go.RowKit

theorem scmp_is {a b : ByteArray} (h : scmp .eql a b = true) : a = b := by
  have h1 : (a.toList == b.toList) = true := h
  rw [ByteArray.toList_eq, ByteArray.toList_eq, beq_iff_eq] at h1
  obtain ⟨⟨l⟩⟩ := a; obtain ⟨⟨m⟩⟩ := b
  cases h1; rfl
theorem scmp_neq {a b : ByteArray} : scmp .neq a b = !scmp .eql a b := rfl
def mshText : ByteArray := ⟨#[77, 83, 72, 49]⟩
def unN (s : ByteArray) : Nat := sb s 4 * sb s 5 * sb s 6
def unF (s : ByteArray) : V3 := (cb .f32 (rd4 s 7), cb .f32 (rd4 s 11), cb .f32 (rd4 s 15))
def unSt (s : ByteArray) : Nat := cb .f32 (rd4 s 19)
def unPk (s : ByteArray) (vs : List V3) : ByteArray := stb (pkL (unF s) (unSt s) (sb s 4 : Int) (sb s 5 : Int) (sb s 6 : Int) vs)
def unMs (s : ByteArray) : Bool := meshOk (unF s) (unSt s) (sb s 4 : Int) (sb s 5 : Int) (sb s 6 : Int) (unN s)
def unPre (s : ByteArray) : Bool := decide (27 ≤ s.size) && scmp .eql (s.extract 0 4) mshText && decide (unN s ≤ 216) && decide (s.size = 27 + 6 * unN s) && unMs s
def unOk (s : ByteArray) : Bool := unPre s && allF (unL s (unN s)) (unN s * 3) && scmp .eql (unPk s (unL s (unN s))) s
def unR (s : ByteArray) : List V3 := if unOk s then unL s (unN s) else []
def unG (s : ByteArray) : V3 := if unOk s then unF s else z3
def unS (s : ByteArray) : Nat := if unOk s then unSt s else 0
def unI (s : ByteArray) (i : Nat) : Int := if unOk s then (sb s i : Int) else 0
section
variable {s : ByteArray} {i : Nat}
theorem unPre_no1 (h : s.size < 27) : unPre s = false := by unfold unPre; rw [decide_eq_false (by omega)]; rfl
theorem unPre_no2 (h : scmp .eql (s.extract 0 4) mshText = false) : unPre s = false := by unfold unPre; rw [h, Bool.and_false]; rfl
theorem unPre_no3 (h : 216 < unN s) : unPre s = false := by unfold unPre; rw [decide_eq_false (show ¬ unN s ≤ 216 by omega), Bool.and_false]; rfl
theorem unPre_no4 (h : s.size ≠ 27 + 6 * unN s) : unPre s = false := by unfold unPre; rw [decide_eq_false h, Bool.and_false]; rfl
theorem unPre_no5 (h : unMs s = false) : unPre s = false := by unfold unPre; rw [h, Bool.and_false]
theorem unPre_yes (h1 : 27 ≤ s.size) (h2 : scmp .eql (s.extract 0 4) mshText = true) (h3 : unN s ≤ 216) (h4 : s.size = 27 + 6 * unN s) (h5 : unMs s = true) : unPre s = true := by
  unfold unPre; rw [decide_eq_true h1, h2, decide_eq_true h3, decide_eq_true h4, h5]; rfl
theorem unOk_no (h : unPre s = false) : unOk s = false := by unfold unOk; rw [h]; rfl
theorem unR_yes (h : unOk s = true) : unR s = unL s (unN s) := by unfold unR; exact if_pos h
theorem unG_yes (h : unOk s = true) : unG s = unF s := by unfold unG; exact if_pos h
theorem unS_yes (h : unOk s = true) : unS s = unSt s := by unfold unS; exact if_pos h
theorem unI_yes (h : unOk s = true) : unI s i = (sb s i : Int) := by unfold unI; exact if_pos h
theorem unR_no (h : unOk s = false) : unR s = [] := by unfold unR; exact if_neg (by rw [h]; decide)
theorem unG_no (h : unOk s = false) : unG s = z3 := by unfold unG; exact if_neg (by rw [h]; decide)
theorem unS_no (h : unOk s = false) : unS s = 0 := by unfold unS; exact if_neg (by rw [h]; decide)
theorem unI_no (h : unOk s = false) : unI s i = 0 := by unfold unI; exact if_neg (by rw [h]; decide)
theorem unR_length : (unR s).length ≤ 216 := by
  unfold unR; split
  · rename_i h
    rw [unL_length]
    unfold unOk unPre at h
    simp only [Bool.and_eq_true, decide_eq_true_eq] at h
    omega
  · exact Nat.zero_le _
theorem can_unV {k : Nat} : Can .f32 (unV s k) := ⟨cb_fconv _ _ _ (by decide), fconv_lt _ _ _ (by decide)⟩
theorem cans_unR : Cans3 (unR s) := by
  unfold unR; split
  · intro v hv
    obtain ⟨i, _, rfl⟩ := List.mem_map.1 hv
    exact ⟨can_unV, can_unV, can_unV⟩
  · intro v hv; cases hv
theorem can_rd4 {p : Nat} : Can .f32 (cb .f32 (rd4 s p)) := can_cb .f32 (rd4_lt s p)
theorem can_unF : Can3 (unF s) := ⟨can_rd4, can_rd4, can_rd4⟩
theorem can_unSt : Can .f32 (unSt s) := can_rd4
theorem can_unG : Can3 (unG s) := by unfold unG; split; exact can_unF; exact can_z3
theorem can_unS : Can .f32 (unS s) := by unfold unS; split; exact can_unSt; exact can_f0
end
section
variable {s : ByteArray} {vs : List V3}
/-- What is read so: packing it tells whether the text is a mesh, and then it is the mesh's list. -/
theorem un_join (hp : unPre s = true) (hl : vs.length = unN s) (h : ∀ k, k < unN s * 3 → Nar (unX (cb .f32 (rd4 s 23)) (q16 (rd2 s (27 + k * 2)))) (num vs k)) :
    (allF vs (vs.length * 3) = false → unOk s = false) ∧ (allF vs (vs.length * 3) = true → scmp .eql (unPk s vs) s = false → unOk s = false) ∧
    (allF vs (vs.length * 3) = true → scmp .eql (unPk s vs) s = true → unOk s = true ∧ vs = unL s (unN s)) := by
  have back : unOk s = true → vs = unL s (unN s) := by
    intro ho
    unfold unOk at ho
    rw [Bool.and_eq_true, Bool.and_eq_true] at ho
    exact un_back hl h ho.1.2 (scmp_is ho.2)
  refine ⟨fun ha => ?_, fun ha hs => ?_, fun ha hs => ?_⟩
  · cases ho : unOk s with
    | false => rfl
    | true =>
      have e := back ho
      unfold unOk at ho
      rw [Bool.and_eq_true, Bool.and_eq_true, ← e, ← hl, ha] at ho
      exact absurd ho.1.2 (by decide)
  · cases ho : unOk s with
    | false => rfl
    | true =>
      have e := back ho
      unfold unOk at ho
      rw [Bool.and_eq_true, ← e, hs] at ho
      exact absurd ho.2 (by decide)
  · have e := un_is (f := unF s) (st := unSt s) (wi := (sb s 4 : Int)) (hi := (sb s 5 : Int)) (de := (sb s 6 : Int)) (by rw [hl]; exact h) ha (scmp_is hs)
    rw [hl] at e
    refine ⟨?_, e⟩
    unfold unOk
    rw [← e, ← hl, hp, ha, hs]; rfl
theorem un_joinS (hp : unPre s = true) (hl : vs.length = unN s) (h : ∀ k, k < unN s * 3 → ∃ v, Nar (unX (cb .f32 (rd4 s 23)) (q16 (rd2 s (27 + k * 2)))) v ∧ num vs k = az v) :
    (allF vs (vs.length * 3) = false → unOk s = false) ∧ (allF vs (vs.length * 3) = true → scmp .eql (unPk s vs) s = false → unOk s = false) ∧
    (allF vs (vs.length * 3) = true → scmp .eql (unPk s vs) s = true → unOk s = true ∧ vs = unL s (unN s)) := by
  have back : unOk s = true → allF vs (vs.length * 3) = true ∧ unPk s vs = s := by
    intro ho
    unfold unOk at ho
    rw [Bool.and_eq_true, Bool.and_eq_true] at ho
    rw [hl]
    exact un_backS hl h ho.1.2 (scmp_is ho.2)
  refine ⟨fun ha => ?_, fun ha hs => ?_, fun ha hs => ?_⟩
  · cases ho : unOk s with
    | false => rfl
    | true => rw [(back ho).1] at ha; exact absurd ha (by decide)
  · cases ho : unOk s with
    | false => rfl
    | true => rw [(back ho).2, scmp_eq_self] at hs; exact absurd hs (by decide)
  · have e := un_isS (f := unF s) (st := unSt s) (wi := (sb s 4 : Int)) (hi := (sb s 5 : Int)) (de := (sb s 6 : Int)) (by rw [hl]; exact h) ha (scmp_is hs)
    rw [hl] at e
    refine ⟨?_, e⟩
    unfold unOk
    rw [← e, ← hl, hp, ha, hs]; rfl
end
/-! ### adding to nothing -/
theorem add_num {v u : Nat} {sg : Bool} (hs : sgn Ieee.single v = sg) (hl : rng Ieee.single v < Ieee.single.infRung) (hv : v < 2 ^ 32) (hu : units Ieee.single (rng Ieee.single v) = u) (b : Bool) (hb : b = false) :
    Ieee.single.write (.number (if (if sg = true then -(u : Int) else u) = 0 then b else decide ((if sg = true then -(u : Int) else (u : Int)) < 0)) (if sg = true then -(u : Int) else (u : Int)).natAbs (-149)) = az v := by
  subst hb
  have hlp : Ieee.single.leastPlace = -149 := by decide
  unfold az
  by_cases h0 : rng Ieee.single v = 0
  · rw [if_pos h0]
    have hu0 : u = 0 := by rw [← hu]; exact (units_zero _).2 h0
    subst hu0
    cases sg <;> decide
  · rw [if_neg h0]
    have hu0 : u ≠ 0 := by rw [← hu]; exact units_pos _ h0
    have hw : Ieee.single.word sg (rng Ieee.single v) = v := by rw [← hs]; exact word_of .f32 hv
    have hsum : (if (if sg = true then -(u : Int) else u) = 0 then false else decide ((if sg = true then -(u : Int) else (u : Int)) < 0)) = sg := by
      cases sg
      · rw [if_neg (by simp; omega)]; simp
      · rw [if_neg (by simp; omega)]; simp; omega
    have hna : (if sg = true then -(u : Int) else (u : Int)).natAbs = u := by cases sg <;> simp
    rw [hsum, hna]
    show Ieee.single.nearest _ _ _ = _
    have h9 := nearest_units Ieee.single sg (m := u) (e := -149) (a := 0) (b := 0) (Nat.le_of_lt hl) (by rw [hlp]) (by rw [hu])
    rw [h9, hw]
theorem add_0l {v : Nat} (h : Can .f32 v) : fop .add .f32 0 v = az v := by
  cases hn : fnan .f32 v with
  | true => rw [h.nan hn]; decide
  | false =>
    have hle := rng_le hn
    have r0 : Ieee.single.read 0 = .number false 0 (-149) := by decide
    unfold fop floatBits Ieee.Format.add
    rcases Nat.lt_or_ge (rng Ieee.single v) Ieee.single.infRung with hl | hl
    · obtain ⟨m, e, h1, h2⟩ := read_number Ieee.single hl
      have hlp : Ieee.single.leastPlace = -149 := by decide
      simp only [show FloatKind.f32.format = Ieee.single from rfl, r0, h1, Ieee.Datum.sum, hlp, Option.map_some, Option.getD_some, signed_val]
      have hmin : min (-149 : Int) (-149 + (e : Nat)) = -149 := by omega
      rw [hmin]
      have e1 : (-149 + (e : Int) - -149).toNat = e := by omega
      rw [e1, h2]
      simp only [Nat.zero_mul, Int.natCast_zero, Int.zero_add, if_false, Bool.false_eq_true]
      exact add_num rfl hl h.lt rfl _ (by simp)
    · have h' : rng Ieee.single v = Ieee.single.infRung := Nat.le_antisymm hle hl
      have hinf := read_inf .f32 (x := v) h'
      change Ieee.single.read v = _ at hinf
      simp only [show FloatKind.f32.format = Ieee.single from rfl, r0, hinf, Ieee.Datum.sum, Option.map_some, Option.getD_some]
      unfold az
      rw [if_neg (by rw [h']; decide)]
      have hw : Ieee.single.word (sgn Ieee.single v) (rng Ieee.single v) = v := word_of .f32 h.lt
      rw [h'] at hw
      exact hw
theorem add_0r {v : Nat} (h : Can .f32 v) : fop .add .f32 v 0 = az v := by
  cases hn : fnan .f32 v with
  | true => rw [h.nan hn]; decide
  | false =>
    have hle := rng_le hn
    have r0 : Ieee.single.read 0 = .number false 0 (-149) := by decide
    unfold fop floatBits Ieee.Format.add
    rcases Nat.lt_or_ge (rng Ieee.single v) Ieee.single.infRung with hl | hl
    · obtain ⟨m, e, h1, h2⟩ := read_number Ieee.single hl
      have hlp : Ieee.single.leastPlace = -149 := by decide
      simp only [show FloatKind.f32.format = Ieee.single from rfl, r0, h1, Ieee.Datum.sum, hlp, Option.map_some, Option.getD_some, signed_val]
      have hmin : min (-149 + (e : Int)) (-149 : Int) = -149 := by omega
      rw [hmin]
      have e1 : (-149 + (e : Int) - -149).toNat = e := by omega
      rw [e1, h2]
      simp only [Nat.zero_mul, Int.natCast_zero, Int.add_zero, if_false, Bool.false_eq_true]
      exact add_num rfl hl h.lt rfl _ (by simp)
    · have h' : rng Ieee.single v = Ieee.single.infRung := Nat.le_antisymm hle hl
      have hinf := read_inf .f32 (x := v) h'
      change Ieee.single.read v = _ at hinf
      simp only [show FloatKind.f32.format = Ieee.single from rfl, r0, hinf, Ieee.Datum.sum, Option.map_some, Option.getD_some]
      unfold az
      rw [if_neg (by rw [h']; decide)]
      have hw : Ieee.single.word (sgn Ieee.single v) (rng Ieee.single v) = v := word_of .f32 h.lt
      rw [h'] at hw
      exact hw
theorem az_idem {v : Nat} : az (az v) = az v := by
  unfold az
  split
  · decide
  · rfl
theorem can_az {v : Nat} (h : Can .f32 v) : Can .f32 (az v) := by unfold az; split; exact can_f0; exact h
theorem az_0 : az 0 = 0 := by decide
end Go.Proofs.Ytnommdpgmoljcaa


namespace Go.Proofs.Ytnommdpgmoljcaa
open Go.RowKit
section
variable {s : ByteArray} {j k i : Nat} {v w : V3} {vs : List V3}
theorem mk_yes (h : scmp .neq (s.extract 0 4) mshText = false) : scmp .eql (s.extract 0 4) mshText = true := by rw [scmp_neq] at h; simpa using h
theorem mk_no (h : scmp .neq (s.extract 0 4) mshText = true) : scmp .eql (s.extract 0 4) mshText = false := by rw [scmp_neq] at h; simpa using h
theorem pkk_no {a : ByteArray} (h : scmp .neq a s = true) : scmp .eql a s = false := by rw [scmp_neq] at h; simpa using h
theorem pkk_yes {a : ByteArray} (h : scmp .neq a s = false) : scmp .eql a s = true := by rw [scmp_neq] at h; simpa using h
/-- The first five numbers of a text. -/
def un5 (s : ByteArray) (k : Nat) : List Nat := (List.range k).map fun j => cb .f32 (rd4 s (7 + j * 4))
theorem un5_length : (un5 s k).length = k := by simp [un5]
theorem un5_0 : un5 s 0 = [] := rfl
theorem un5_snoc : fl (un5 s k) ++ [.float .f32 (cb .f32 (rd4 s (7 + k * 4)))] = fl (un5 s (k + 1)) := by rw [fl_snoc]; simp [un5, List.range_succ]
theorem un5_get (h : j < k) : (un5 s k).getD j 0 = cb .f32 (rd4 s (7 + j * 4)) := by
  unfold un5
  rw [List.getD_eq_getElem?_getD, List.getElem?_map, List.getElem?_range h, Option.map_some, Option.getD_some]
def axis3 (j x : Nat) : V3 := if j = 0 then (x, 0, 0) else if j = 1 then (0, x, 0) else (0, 0, x)
theorem axis3_0 {x : Nat} : axis3 0 x = (x, 0, 0) := rfl
theorem axis3_1 {x : Nat} : axis3 1 x = (0, x, 0) := rfl
theorem axis3_2 {x : Nat} : axis3 2 x = (0, 0, x) := rfl
theorem axis_part {m x : Nat} (hm : m < 3) (hj : j < 3) : part3 (axis3 j x) m = if m = j then x else 0 := by
  rcases (by omega : j = 0 ∨ j = 1 ∨ j = 2) with rfl | rfl | rfl <;> rcases (by omega : m = 0 ∨ m = 1 ∨ m = 2) with rfl | rfl | rfl <;> rfl
theorem add_part {m : Nat} : part3 (add3 v w) m = fop .add .f32 (part3 v m) (part3 w m) := by
  unfold part3 add3
  split
  · rfl
  · split <;> rfl
/-- What is known of the numbers of a node, the first j of which are read. -/
def unA (s : ByteArray) (i : Nat) (v : V3) (j : Nat) : Prop := ∀ m, m < 3 → (m < j → ∃ y, Nar (unX (cb .f32 (rd4 s 23)) (q16 (rd2 s (27 + (i * 3 + m) * 2)))) y ∧ part3 v m = az y) ∧ (j ≤ m → part3 v m = 0)
theorem unA_0 : unA s i z3 0 := fun m _ => ⟨fun h => absurd h (by omega), fun _ => by unfold part3 z3; split; rfl; split <;> rfl⟩
theorem unA_s (h : unA s i v j) (hj : j < 3) {x p : Nat} (hx : Nar (unX (cb .f32 (rd4 s 23)) (q16 (rd2 s p))) x) (hp : p = 27 + (i * 3 + j) * 2) : unA s i (add3 v (axis3 j x)) (j + 1) := by
  subst hp
  intro m hm
  obtain ⟨h1, h2⟩ := h m hm
  rw [add_part, axis_part hm hj]
  refine ⟨fun hlt => ?_, fun hle => ?_⟩
  · rcases Nat.lt_or_ge m j with hmj | hmj
    · obtain ⟨y, hy, e⟩ := h1 hmj
      rw [if_neg (by omega), e]
      exact ⟨y, hy, by rw [add_0r (can_az hy.1), az_idem]⟩
    · obtain rfl : m = j := by omega
      rw [if_pos rfl, h2 (Nat.le_refl _)]
      exact ⟨x, hx, add_0l hx.1⟩
  · rw [if_neg (by omega), h2 (by omega), add_0l can_f0, az_0]
theorem num_snoc_lt (h : k < vs.length * 3) : num (vs ++ [v]) k = num vs k := by
  have h2 : (vs ++ [v]).getD (k / 3) z3 = vs.getD (k / 3) z3 := by simp [List.getD, List.getElem?_append_left (show k / 3 < vs.length by omega)]
  unfold num; rw [h2]
theorem num_snoc {m : Nat} (hm : m < 3) : num (vs ++ [v]) (vs.length * 3 + m) = part3 v m := by rw [num_part hm]; simp [List.getD]
def unH (s : ByteArray) (vs : List V3) : Prop := Cans3 vs ∧ ∀ k, k < vs.length * 3 → Nar (unX (cb .f32 (rd4 s 23)) (q16 (rd2 s (27 + k * 2)))) (num vs k)
def unHS (s : ByteArray) (vs : List V3) : Prop := Cans3 vs ∧ ∀ k, k < vs.length * 3 → ∃ v, Nar (unX (cb .f32 (rd4 s 23)) (q16 (rd2 s (27 + k * 2)))) v ∧ num vs k = az v
theorem unH_0 : unH s [] := ⟨fun v hv => (by cases hv), fun k hk => (by simp at hk)⟩
theorem unHS_0 : unHS s [] := ⟨fun v hv => (by cases hv), fun k hk => (by simp at hk)⟩
theorem cans_snoc (h : Cans3 vs) (hv : Can3 v) : Cans3 (vs ++ [v]) := by
  intro u hu
  rcases List.mem_append.1 hu with hu | hu
  · exact h u hu
  · rw [List.mem_singleton.1 hu]; exact hv
theorem unH_s (h : unH s vs) {a b c p0 p1 p2 S : Nat} (h0 : Nar (unX S (q16 (rd2 s p0))) a) (h1 : Nar (unX S (q16 (rd2 s p1))) b) (h2 : Nar (unX S (q16 (rd2 s p2))) c) (hS : S = cb .f32 (rd4 s 23)) (hp0 : p0 = 27 + (vs.length * 3 + 0) * 2) (hp1 : p1 = 27 + (vs.length * 3 + 1) * 2) (hp2 : p2 = 27 + (vs.length * 3 + 2) * 2) : unH s (vs ++ [(a, b, c)]) := by
  subst hS; subst hp0; subst hp1; subst hp2
  refine ⟨cans_snoc h.1 ⟨h0.1, h1.1, h2.1⟩, fun k hk => ?_⟩
  rw [List.length_append] at hk
  replace hk : k < (vs.length + 1) * 3 := hk
  rcases Nat.lt_or_ge k (vs.length * 3) with hl | hl
  · rw [num_snoc_lt hl]; exact h.2 k hl
  · obtain ⟨m, rfl⟩ : ∃ m, k = vs.length * 3 + m := ⟨k - vs.length * 3, by omega⟩
    have hm : m < 3 := by omega
    rw [num_snoc hm]
    rcases (by omega : m = 0 ∨ m = 1 ∨ m = 2) with rfl | rfl | rfl
    · exact h0
    · exact h1
    · exact h2
theorem unHS_s (h : unHS s vs) (hv : unA s vs.length v 3) : unHS s (vs ++ [v]) := by
  have c : ∀ m, m < 3 → Can .f32 (part3 v m) := fun m hm => by
    obtain ⟨y, hy, e⟩ := (hv m hm).1 hm
    rw [e]; exact can_az hy.1
  refine ⟨cans_snoc h.1 ⟨c 0 (by decide), c 1 (by decide), c 2 (by decide)⟩, fun k hk => ?_⟩
  rw [List.length_append] at hk
  replace hk : k < (vs.length + 1) * 3 := hk
  rcases Nat.lt_or_ge k (vs.length * 3) with hl | hl
  · rw [num_snoc_lt hl]; exact h.2 k hl
  · obtain ⟨m, rfl⟩ : ∃ m, k = vs.length * 3 + m := ⟨k - vs.length * 3, by omega⟩
    have hm : m < 3 := by omega
    rw [num_snoc hm]
    exact (hv m hm).1 hm
theorem q16_hi {n : Nat} (h : ¬ n ≤ 32767) : q16 n = (n : Int) - 65536 := by unfold q16; rw [if_neg h]
theorem q16_lo {n : Nat} (h : n ≤ 32767) : q16 n = (n : Int) := by unfold q16; rw [if_pos h]
end
section
variable {P : Program} {w0 : World} {O : List Ent} {E : Env} {o : Oper} {s : ByteArray}
theorem un5_q (j : Nat) {n : Nat} (hn : 7 + j * 4 = n) (h : j < 5) (hy : YQ P w0 O E o (.float .f32 ((un5 s 5).getD j 0))) : YQ P w0 O E o (.float .f32 (cb .f32 (rd4 s n))) := by rw [un5_get h, hn] at hy; exact hy
theorem un_rd {p : Nat} (h : p + 4 ≤ s.size) (hy : YQ P w0 O E o (.float .f32 (cb .f32 (rd4 (s.extract p (p + 4)) 0)))) : YQ P w0 O E o (.float .f32 (cb .f32 (rd4 s p))) := by rw [rd4_part h] at hy; exact hy
end
theorem Pick.e6 {O O1 O2 O3 O4 O5 F : List Ent} {e1 e2 e3 e4 e5 e6 : Ent} (h1 : Rem O [e1] O1) (h2 : Rem O1 [e2] O2) (h3 : Rem O2 [e3] O3) (h4 : Rem O3 [e4] O4) (h5 : Rem O4 [e5] O5) (h6 : Rem O5 [e6] F) : Pick O [e1, e2, e3, e4, e5, e6] F := Pick.take h1 (Pick.take h2 (Pick.take h3 (Pick.take h4 (Pick.take h5 (Pick.take h6 .nil)))))
theorem Hp.nilU {w0 w : World} {O : List Ent} (h : Hp w0 O w) (t : TypeId) : Hp w0 (⟨none, [], 0, t⟩ :: O) w :=
  h.new (Below.refl _ _) (.inl ⟨rfl, rfl⟩)

/-! ### limits -/
theorem pkT_size {f : V3} {st : Nat} {wi hi de : Int} {vs : List V3} : (pkT f st wi hi de vs).size ≤ 1048576 := by
  cases h : pkOk f st wi hi de vs with
  | false => rw [pkT_no h]; exact Nat.zero_le _
  | true =>
    rw [pkT_yes h, stb_size, pkL_length]
    unfold pkOk at h
    rw [Bool.and_eq_true] at h
    obtain ⟨W, H, D, _, _, _, _, _, hbd, hN⟩ := mesh_open h.1
    omega
theorem unOk_no0 : unOk ⟨#[]⟩ = false := unOk_no (unPre_no1 (by decide))
/-- A mesh that may be none. -/
structure MX where
  f : V3
  st : Nat
  wi : Int
  hi : Int
  de : Int
  ar : Option Addr
  cr : Nat
  vs : List V3
def MX.is (s : ByteArray) (x : MX) : Prop := unOk s = true → x.f = unF s ∧ x.st = unSt s ∧ x.wi = (sb s 4 : Int) ∧ x.hi = (sb s 5 : Int) ∧ x.de = (sb s 6 : Int) ∧ x.vs = unL s (unN s)
def MX.v (x : MX) : Value := .agg #[.float .f32 x.f.1, .float .f32 x.f.2.1, .float .f32 x.f.2.2, .float .f32 x.st, .int .i64 x.wi, .int .i64 x.hi, .int .i64 x.de, .slice x.ar x.vs.length x.cr]
def MX.none : MX := ⟨z3, 0, 0, 0, 0, Option.none, 0, []⟩
theorem MX.none_is {s : ByteArray} (h : unOk s = false) : MX.none.is s := fun h2 => by rw [h] at h2; cases h2
/-- What unpacking hands back. -/
def unRes (s : ByteArray) (p : Option Addr × Nat) : Value := .tuple #[.agg #[.float .f32 (unG s).1, .float .f32 (unG s).2.1, .float .f32 (unG s).2.2, .float .f32 (unS s), .int .i64 (unI s 4), .int .i64 (unI s 5), .int .i64 (unI s 6), .slice p.1 (unR s).length p.2], .bool (unOk s)]
theorem unRes_no {s : ByteArray} (h : unOk s = false) : unRes s (none, 0) = .tuple #[.agg #[.float .f32 0, .float .f32 0, .float .f32 0, .float .f32 0, .int .i64 0, .int .i64 0, .int .i64 0, .slice none 0 0], .bool false] := by
  unfold unRes; rw [unG_no h, unS_no h, unI_no h, unI_no h, unI_no h, unR_no h, h]; rfl
theorem unRes_yes {s : ByteArray} {p : Option Addr × Nat} (h : unOk s = true) : unRes s p = .tuple #[.agg #[.float .f32 (unF s).1, .float .f32 (unF s).2.1, .float .f32 (unF s).2.2, .float .f32 (unSt s), .int .i64 (sb s 4 : Int), .int .i64 (sb s 5 : Int), .int .i64 (sb s 6 : Int), .slice p.1 (unL s (unN s)).length p.2], .bool true] := by
  unfold unRes; rw [unG_yes h, unS_yes h, unI_yes h, unI_yes h, unI_yes h, unR_yes h, h]
theorem unEnt_no {s : ByteArray} (h : unOk s = false) {B : Nat} {w : World} {t : TypeId} : ∀ e ∈ [(⟨none, vl (unR s), 0 * 3, t⟩ : Ent)], e.at B w := by
  rw [unR_no h]; intro e he; rw [List.mem_singleton.1 he]; exact .inl ⟨rfl, rfl⟩
end Go.Proofs.Ytnommdpgmoljcaa


namespace Go.Proofs.Ytnommdpgmoljcaa
open Go.RowKit
set_option linter.unusedVariables false
set_option linter.unusedSimpArgs false
set_option maxRecDepth 20000

theorem zero30_UnI : (Try.prog.info? 30).bind (·.zero) = some (Value.agg #[Value.float .f32 0, Value.float .f32 0, Value.float .f32 0, Value.float .f32 0, Value.int .i64 0, Value.int .i64 0, Value.int .i64 0, Value.slice none 0 0]) := by kernel_rfl
theorem fb9_UnI : flatB Try.prog 9 = true := by kernel_rfl
theorem lay30_UnI : Lay Try.prog 30 [Value.float .f32 0, Value.float .f32 0, Value.float .f32 0, Value.float .f32 0, Value.int .i64 0, Value.int .i64 0, Value.int .i64 0, Value.slice none 0 0] [(0, 3), (3, 1), (4, 1), (5, 1), (6, 1), (7, 1)] := Lay.mk' (by kernel_rfl) (by kernel_rfl)
theorem sz30_UnI : (Try.prog.info? 30).map (·.size) = some 8 := by kernel_rfl
theorem elt23_UnI : Elt Try.prog 23 [Value.float .f32 0] 4 := Elt.mk' (by kernel_rfl) (by decide)
theorem zero86_UnI : (Try.prog.info? 86).bind (·.zero) = some (Value.slice none 0 0) := by kernel_rfl
theorem sz86_UnI : (Try.prog.info? 86).map (·.size) = some 1 := by kernel_rfl
theorem mixed_UnI : Try.prog.follows .mixedOrders = true := by kernel_rfl
theorem fb86_UnI : flatB Try.prog 86 = true := by kernel_rfl
theorem known55_UnI : Known Try.prog 55 := Known.mk' Try.func55 (by kernel_rfl)
theorem sz23_UnI : (Try.prog.info? 23).map (·.size) = some 1 := by kernel_rfl
theorem fb23_UnI : flatB Try.prog 23 = true := by kernel_rfl
theorem lay27_UnI : Lay Try.prog 27 [Value.float .f32 0, Value.float .f32 0, Value.float .f32 0] [(0, 1), (1, 1), (2, 1)] := Lay.mk' (by kernel_rfl) (by kernel_rfl)
theorem sz2_UnI : (Try.prog.info? 2).map (·.size) = some 1 := by kernel_rfl
theorem fb2_UnI : flatB Try.prog 2 = true := by kernel_rfl
theorem sz28_UnI : (Try.prog.info? 28).map (·.size) = some 1 := by kernel_rfl
theorem fb28_UnI : flatB Try.prog 28 = true := by kernel_rfl
theorem known56_UnI : Known Try.prog 56 := Known.mk' Try.func56 (by kernel_rfl)
theorem elt27_UnI : Elt Try.prog 27 [Value.float .f32 0, Value.float .f32 0, Value.float .f32 0] 12 := Elt.mk' (by kernel_rfl) (by decide)
theorem known57_UnI : Known Try.prog 57 := Known.mk' Try.func57 (by kernel_rfl)
theorem known58_UnI : Known Try.prog 58 := Known.mk' Try.func58 (by kernel_rfl)
attribute [local irreducible] fop fcmp fconv fneg fabs List.getD sb rd4 rd2 q16 unX un5 unOk unPre unMs allF pkL stb num

theorem c_implUn {w : World} {s : ByteArray} (hs : s.size ≤ 1048576) : New Try.prog 19 [.string s] w (fun p : Option Addr × Nat => unRes s p) (fun p => [⟨p.1, vl (unR s), p.2 * 3, 27⟩]) := by
  refine New.enter Try.func19 rfl Try.ntmps19 (Nat.le_of_ble_eq_true rfl) ?_
  have hb4 := sb_lt s 4
  have hb5 := sb_lt s 5
  have hb6 := sb_lt s 6
  have hm45 : sb s 4 * sb s 5 ≤ 65025 := Nat.le_trans (Nat.mul_le_mul (show sb s 4 ≤ 255 by omega) (show sb s 5 ≤ 255 by omega)) (by decide)
  have hm456 : unN s ≤ 16581375 := Nat.le_trans (Nat.mul_le_mul hm45 (show sb s 6 ≤ 255 by omega)) (by decide)
  refine V.seq ?_
  refine V.region ?_
  refine VL.new1 (.inl rfl) rfl (by decide) (yn_box rfl rfl (.inl ⟨rfl, rfl⟩)) ?_
  intro b1
  refine VL.new1 (.inl rfl) rfl (by decide) (yn_alloc rfl zero30_UnI rfl) ?_
  intro b2
  refine VL.r (.inl rfl) rfl (by decide) (yr_assign (u := .bool false) rfl rfl) ?_
  refine VL.nil ?_
  refine VE.then_wp ?_
  refine V.seq ?_
  refine V.seq ?_
  refine V.region ?_
  refine VL.q (.inl rfl) rfl (by decide) (yq_load rfl fb9_UnI rfl (by first | exact Sees.root (by assumption) | exact Sees.own (by repeat (first | exact List.mem_cons_self | exact List.mem_append_left _ (by assumption) | apply List.mem_cons_of_mem | apply List.mem_append_right)) | exact Sees.root (hR _ (by omega)) | exact Sees.own (RowsIn.mem (by repeat (first | exact RowsIn.here | exact RowsIn.last | apply RowsIn.there | apply RowsIn.thereS)) _ (by omega)) | exact Sees.own (WRowsIn.mem (by repeat (first | exact WRowsIn.here | exact WRowsIn.last | apply WRowsIn.there | apply WRowsIn.thereS)) _ (by omega))) rfl) ?_
  refine VL.r (.inl rfl) rfl (by decide) (yr_lenString rfl Try.underlying9 rfl) ?_
  refine VL.r (.inl rfl) rfl (by decide) (yr_icmp rfl (.inr (.inr (.inl rfl))) rfl rfl) ?_
  refine VL.r (.inl rfl) rfl (by decide) (yr_move rfl rfl) ?_
  refine VX.split 16 _ rfl (fun h1 => ?_) (fun h1 => ?_)
  · skip
    replace h1 := ic_lss h1
    refine VL.no rfl rfl rfl rfl rfl (by decide) ?_
    refine VL.no rfl rfl rfl rfl rfl (by decide) ?_
    refine VL.no rfl rfl rfl rfl rfl (by decide) ?_
    refine VL.r (.inl rfl) rfl (by decide) (yr_pick_t (u := .bool true) rfl rfl rfl) ?_
    refine VL.nil ?_
    refine VE.then_wp ?_
    refine V.condT rfl ?_
    refine V.seq ?_
    refine V.region ?_
    refine VL.r (.inl rfl) rfl (by decide) (yr_build rfl lay30_UnI rfl .nil (by first | (simp; done) | (simp [vv]; done) | (simp [cn, cn1, cn0]; done)) rfl) ?_
    refine VL.s (.inl rfl) rfl (yc_store rfl sz30_UnI rfl rfl (by repeat (first | exact UpdF.here | apply UpdF.there | apply UpdF.thereS)) (.inr ⟨rfl, rfl⟩) rfl (by first | exact Nat.le_of_ble_eq_true rfl | simp) (by decide) rfl) ?_
    rintro ⟨⟩
    refine VL.r (.inl rfl) rfl (by decide) (yr_assign (u := .bool false) rfl rfl) ?_
    refine VL.nil ?_
    refine VE.then_wp ?_
    refine V.ret ?_
    refine VE.then_ret ?_
    refine retN rfl (.cons (rv_cellS rfl Try.underlying30 sz30_UnI (by first | exact Sees.root (by assumption) | exact Sees.own (by repeat (first | exact List.mem_cons_self | exact List.mem_append_left _ (by assumption) | apply List.mem_cons_of_mem | apply List.mem_append_right)) | exact Sees.root (hR _ (by omega)) | exact Sees.own (RowsIn.mem (by repeat (first | exact RowsIn.here | exact RowsIn.last | apply RowsIn.there | apply RowsIn.thereS)) _ (by omega)) | exact Sees.own (WRowsIn.mem (by repeat (first | exact WRowsIn.here | exact WRowsIn.last | apply WRowsIn.there | apply WRowsIn.thereS)) _ (by omega))) rfl rfl rfl) (.cons (rv_tmp rfl (by nofun)) .nil)) (by nofun) (fun w1 hw => ?_)
    first
      | ((have ho : unOk s = false := unOk_no (by first | exact unPre_no1 (by omega) | exact unPre_no2 (mk_no (by assumption)) | exact unPre_no3 (by omega) | exact unPre_no4 (by omega) | exact unPre_no5 (by assumption))); exact ⟨(none, 0), (unRes_no ho).symm, hw.below, unEnt_no ho, List.pairwise_singleton _ _⟩)
      | (obtain ⟨hj1, hj2, hj3⟩ := un_join hp9 hl9 (fun k hk => hH.2 k (by rw [hl9]; exact hk))
         first
         | (have ho : unOk s = false := hj1 (by assumption)
            exact ⟨(none, 0), (unRes_no ho).symm, hw.below, unEnt_no ho, List.pairwise_singleton _ _⟩)
         | (have ha : allF vs (vs.length * 3) = true := by assumption
            have ho : unOk s = false := hj2 ha hq9
            exact ⟨(none, 0), (unRes_no ho).symm, hw.below, unEnt_no ho, List.pairwise_singleton _ _⟩)
         | (have ha : allF vs (vs.length * 3) = true := by assumption
            obtain ⟨ho, e⟩ := hj3 ha hq9
            refine ⟨(ar1, cr1), ?_, ?_⟩
            · rw [unRes_yes ho, ← e]; rfl
            · rw [unR_yes ho, ← e]; exact (hw.pick (by apply Pick.one; repeat (first | exact Rem.here | apply Rem.there))).out1))
  · skip
    replace h1 := ic_lss' h1
    refine VL.q (.inr ⟨_, _, _, rfl, rfl, rfl⟩) rfl (by decide) (yq_load rfl fb9_UnI rfl (by first | exact Sees.root (by assumption) | exact Sees.own (by repeat (first | exact List.mem_cons_self | exact List.mem_append_left _ (by assumption) | apply List.mem_cons_of_mem | apply List.mem_append_right)) | exact Sees.root (hR _ (by omega)) | exact Sees.own (RowsIn.mem (by repeat (first | exact RowsIn.here | exact RowsIn.last | apply RowsIn.there | apply RowsIn.thereS)) _ (by omega)) | exact Sees.own (WRowsIn.mem (by repeat (first | exact WRowsIn.here | exact WRowsIn.last | apply WRowsIn.there | apply WRowsIn.thereS)) _ (by omega))) rfl) ?_
    refine VL.r (.inr ⟨_, _, _, rfl, rfl, rfl⟩) rfl (by decide) (yr_strPart (l := 0) (h := 4) rfl Try.underlying9 rfl OptI.no (OptI.at rfl rfl) (by omega) (by omega)) ?_
    refine VL.r (.inr ⟨_, _, _, rfl, rfl, rfl⟩) rfl (by decide) (yr_scmp rfl rfl rfl (.inr rfl)) ?_
    refine VL.r (.inl rfl) rfl (by decide) (yr_pick_f rfl rfl rfl) ?_
    refine VL.nil ?_
    refine VE.then_wp ?_
    refine V.cond rfl (fun h3 => ?_) (fun h3 => ?_)
    · skip
      refine V.seq ?_
      refine V.region ?_
      refine VL.r (.inl rfl) rfl (by decide) (yr_build rfl lay30_UnI rfl .nil (by first | (simp; done) | (simp [vv]; done) | (simp [cn, cn1, cn0]; done)) rfl) ?_
      refine VL.s (.inl rfl) rfl (yc_store rfl sz30_UnI rfl rfl (by repeat (first | exact UpdF.here | apply UpdF.there | apply UpdF.thereS)) (.inr ⟨rfl, rfl⟩) rfl (by first | exact Nat.le_of_ble_eq_true rfl | simp) (by decide) rfl) ?_
      rintro ⟨⟩
      refine VL.r (.inl rfl) rfl (by decide) (yr_assign (u := .bool false) rfl rfl) ?_
      refine VL.nil ?_
      refine VE.then_wp ?_
      refine V.ret ?_
      refine VE.then_ret ?_
      refine retN rfl (.cons (rv_cellS rfl Try.underlying30 sz30_UnI (by first | exact Sees.root (by assumption) | exact Sees.own (by repeat (first | exact List.mem_cons_self | exact List.mem_append_left _ (by assumption) | apply List.mem_cons_of_mem | apply List.mem_append_right)) | exact Sees.root (hR _ (by omega)) | exact Sees.own (RowsIn.mem (by repeat (first | exact RowsIn.here | exact RowsIn.last | apply RowsIn.there | apply RowsIn.thereS)) _ (by omega)) | exact Sees.own (WRowsIn.mem (by repeat (first | exact WRowsIn.here | exact WRowsIn.last | apply WRowsIn.there | apply WRowsIn.thereS)) _ (by omega))) rfl rfl rfl) (.cons (rv_tmp rfl (by nofun)) .nil)) (by nofun) (fun w1 hw => ?_)
      first
        | ((have ho : unOk s = false := unOk_no (by first | exact unPre_no1 (by omega) | exact unPre_no2 (mk_no (by assumption)) | exact unPre_no3 (by omega) | exact unPre_no4 (by omega) | exact unPre_no5 (by assumption))); exact ⟨(none, 0), (unRes_no ho).symm, hw.below, unEnt_no ho, List.pairwise_singleton _ _⟩)
        | (obtain ⟨hj1, hj2, hj3⟩ := un_join hp9 hl9 (fun k hk => hH.2 k (by rw [hl9]; exact hk))
           first
           | (have ho : unOk s = false := hj1 (by assumption)
              exact ⟨(none, 0), (unRes_no ho).symm, hw.below, unEnt_no ho, List.pairwise_singleton _ _⟩)
           | (have ha : allF vs (vs.length * 3) = true := by assumption
              have ho : unOk s = false := hj2 ha hq9
              exact ⟨(none, 0), (unRes_no ho).symm, hw.below, unEnt_no ho, List.pairwise_singleton _ _⟩)
           | (have ha : allF vs (vs.length * 3) = true := by assumption
              obtain ⟨ho, e⟩ := hj3 ha hq9
              refine ⟨(ar1, cr1), ?_, ?_⟩
              · rw [unRes_yes ho, ← e]; rfl
              · rw [unR_yes ho, ← e]; exact (hw.pick (by apply Pick.one; repeat (first | exact Rem.here | apply Rem.there))).out1))
    · skip
      have hmk := mk_yes h3
      refine V.skip ?_
      refine VE.then_wp ?_
      refine V.seq ?_
      refine V.region ?_
      refine VL.new1 (.inl rfl) rfl (by decide) (yn_lit rfl Try.underlying86 elt23_UnI rfl (by decide) .nil (by first | (simp; done) | (simp [cn, cn1, cn0]; done)) rfl rfl rfl) ?_
      intro b22
      refine VL.new1 (.inl rfl) rfl (by decide) (yn_alloc rfl zero86_UnI rfl) ?_
      intro b4
      refine VL.s (.inl rfl) rfl (yc_store rfl sz86_UnI rfl rfl (by repeat (first | exact UpdF.here | apply UpdF.there | apply UpdF.thereS)) (.inl ⟨rfl, rfl⟩) rfl (by first | exact Nat.le_of_ble_eq_true rfl | simp) (by decide) rfl) ?_
      rintro ⟨⟩
      refine VL.nil ?_
      refine VE.then_wp ?_
      refine V.seq ?_
      refine V.seq ?_
      refine V.region ?_
      refine VL.r (.inl rfl) rfl (by decide) (yr_assign (u := .int .i64 7) rfl rfl) ?_
      refine VL.nil ?_
      refine VE.then_wp ?_
      refine V.block ?_
      refine V.loopc (G := Nat × (Option Addr) × Nat) [(1, _), (2, _), (4, _)] (fun ⟨k, ar, cr⟩ => k ≤ 5 ∧ True) (fun ⟨k, ar, cr⟩ => [⟨some ⟨b4, 0, none⟩, [.slice ar k cr], 1, 86⟩, ⟨ar, fl (un5 s k), cr * 1, 23⟩, ⟨some ⟨b1, 0, none⟩, [.string s], 1, 9⟩, ⟨some ⟨b2, 0, none⟩, [.float .f32 0, .float .f32 0, .float .f32 0, .float .f32 0, .int .i64 0, .int .i64 0, .int .i64 0, .slice none 0 0], 8, 30⟩]) (fun ⟨k, ar, cr⟩ => [(5, .int .i64 ((7 + k * 4 : Nat) : Int))]) (fun ⟨k, ar, cr⟩ => 5 - k) (0, some ⟨b22, 0, none⟩, 0) (.cons rfl (.cons rfl (.cons rfl .nil))) (.cons rfl .nil) ?_ ?_ ?_
      · exact (fun w hw => by dsimp only; rw [un5_0]; exact hw.pick (by apply Pick.e4; all_goals (repeat (first | exact Rem.here | apply Rem.there))))
      · exact (by exact ⟨Nat.zero_le _, trivial⟩)
      rintro ⟨k, ar, cr⟩ ⟨hk, _⟩
      show V _ _ _ [⟨some ⟨b4, 0, none⟩, [.slice ar k cr], 1, 86⟩, ⟨ar, fl (un5 s k), cr * 1, 23⟩, ⟨some ⟨b1, 0, none⟩, [.string s], 1, 9⟩, ⟨some ⟨b2, 0, none⟩, [.float .f32 0, .float .f32 0, .float .f32 0, .float .f32 0, .int .i64 0, .int .i64 0, .int .i64 0, .slice none 0 0], 8, 30⟩] ([(5, .int .i64 ((7 + k * 4 : Nat) : Int))] ++ [(1, _), (2, _), (4, _)]) _ _
      refine V.seq ?_
      refine V.seq ?_
      refine V.region ?_
      refine VL.r (.inl rfl) rfl (by decide) (yr_move rfl rfl) ?_
      refine VL.r (.inl rfl) rfl (by decide) (yr_icmp rfl (.inr (.inr (.inl rfl))) rfl rfl) ?_
      refine VL.nil ?_
      refine VE.then_wp ?_
      refine V.cond rfl (fun h4 => ?_) (fun h4 => ?_)
      · skip
        replace h4 := ic_lss h4
        refine V.skip ?_
        refine VE.then_wp ?_
        refine V.seq ?_
        refine V.block ?_
        refine V.draw [(0, 0), (1, 0), (2, 0), (3, 0), (4, 0), (5, 0), (6, 0), (7, 1), (8, 3), (9, 3)] mixed_UnI (by kernel_rfl) (by intro j o hj; simp at hj) ?_
        refine SW.q rfl (.inl rfl) rfl (by decide) (yq_load rfl fb86_UnI rfl (by first | exact Sees.root (by assumption) | exact Sees.own (by repeat (first | exact List.mem_cons_self | exact List.mem_append_left _ (by assumption) | apply List.mem_cons_of_mem | apply List.mem_append_right)) | exact Sees.root (hR _ (by omega)) | exact Sees.own (RowsIn.mem (by repeat (first | exact RowsIn.here | exact RowsIn.last | apply RowsIn.there | apply RowsIn.thereS)) _ (by omega)) | exact Sees.own (WRowsIn.mem (by repeat (first | exact WRowsIn.here | exact WRowsIn.last | apply WRowsIn.there | apply WRowsIn.thereS)) _ (by omega))) rfl) ?_
        refine SW.q rfl (.inl rfl) rfl (by decide) (yq_load rfl fb9_UnI rfl (by first | exact Sees.root (by assumption) | exact Sees.own (by repeat (first | exact List.mem_cons_self | exact List.mem_append_left _ (by assumption) | apply List.mem_cons_of_mem | apply List.mem_append_right)) | exact Sees.root (hR _ (by omega)) | exact Sees.own (RowsIn.mem (by repeat (first | exact RowsIn.here | exact RowsIn.last | apply RowsIn.there | apply RowsIn.thereS)) _ (by omega)) | exact Sees.own (WRowsIn.mem (by repeat (first | exact WRowsIn.here | exact WRowsIn.last | apply WRowsIn.there | apply WRowsIn.thereS)) _ (by omega))) rfl) ?_
        refine SW.r rfl (.inl rfl) rfl (by decide) (yr_move rfl rfl) ?_
        refine SW.r rfl (.inl rfl) rfl (by decide) (yr_move rfl rfl) ?_
        refine SW.r rfl (.inl rfl) rfl (by decide) (yr_int rfl rfl rfl (.inl ⟨rfl, wrap_in (by omega)⟩)) ?_
        refine SW.r rfl (.inl rfl) rfl (by decide) (yr_strPart (l := 7 + k * 4) (h := 7 + k * 4 + 4) rfl Try.underlying9 rfl (OptI.at rfl rfl) (OptI.at rfl (by omega)) (by omega) (by omega)) ?_
        refine SW.q rfl (.inl rfl) rfl (by decide) (un_rd (p := 7 + k * 4) (by omega) (yq_callf rfl known55_UnI (.cons rfl .nil) (fun w hw => c_readNum (by rw [extract_size (by omega)]; omega)))) ?_
        refine SW.new1 rfl (.inl rfl) rfl (by decide) (yn_lit rfl Try.underlying86 elt23_UnI rfl (by decide) (.cons rfl .nil) (by first | (simp; done) | (simp [cn, cn1, cn0]; done)) rfl rfl rfl) ?_
        intro b34
        refine SW.c rfl (.inl rfl) rfl (by decide) (yc_appendz 1 rfl rfl Try.underlying86 elt23_UnI rfl rfl (by repeat (first | exact UpdF.here | apply UpdF.there | apply UpdF.thereS)) (by first | exact Sees.root (by assumption) | exact Sees.own (by repeat (first | exact List.mem_cons_self | exact List.mem_append_left _ (by assumption) | apply List.mem_cons_of_mem | apply List.mem_append_right)) | exact Sees.root (hR _ (by omega)) | exact Sees.own (RowsIn.mem (by repeat (first | exact RowsIn.here | exact RowsIn.last | apply RowsIn.there | apply RowsIn.thereS)) _ (by omega)) | exact Sees.own (WRowsIn.mem (by repeat (first | exact WRowsIn.here | exact WRowsIn.last | apply WRowsIn.there | apply WRowsIn.thereS)) _ (by omega))) rfl (by first | (rw [fl_length, un5_length]; done) | (rw [fl_length, un5_length, Nat.mul_one]; done) | (rw [vl_length]; done)) rfl (by first | exact fl_scal _ | exact vl_scal _) rfl (by omega) (by omega)) ?_
        rintro ⟨a35, c35⟩
        refine SW.s rfl (.inl rfl) rfl (yc_store rfl sz86_UnI rfl rfl (by repeat (first | exact UpdF.here | apply UpdF.there | apply UpdF.thereS)) (.inl ⟨rfl, rfl⟩) rfl (by first | exact Nat.le_of_ble_eq_true rfl | simp) (by decide) rfl) ?_
        rintro ⟨⟩
        refine SW.done ?_
        refine VE.block_normal ?_
        refine VE.then_wp ?_
        refine V.region ?_
        refine VL.r (.inl rfl) rfl (by decide) (yr_move rfl rfl) ?_
        refine VL.r (.inl rfl) rfl (by decide) (yr_int rfl rfl rfl (.inl ⟨rfl, wrap_in (by omega)⟩)) ?_
        refine VL.r (.inl rfl) rfl (by decide) (yr_assign rfl rfl) ?_
        refine VL.nil ?_
        refine VE.round (k + 1, a35, c35) ?_ ?_ ?_ ?_ ?_
        · exact (.cons (congrArg (fun i => some (Value.int .i64 i)) (by omega)) .nil)
        · exact (.cons rfl (.cons rfl (.cons rfl .nil)))
        · exact (fun w hw => by dsimp only; rw [← un5_snoc]; exact hw.pick (by apply Pick.e4; all_goals (repeat (first | exact Rem.here | apply Rem.there))))
        · exact ⟨by omega, trivial⟩
        · (try dsimp only); omega
      · skip
        replace h4 := ic_lss' h4
        obtain rfl : k = 5 := by omega
        refine V.exit ?_
        refine VE.then_exit ?_
        refine VE.then_exit ?_
        refine VE.block_here ?_
        refine VE.then_wp ?_
        refine V.seq ?_
        refine V.draw [(0, 0), (1, 0), (2, 0), (3, 0), (4, 0), (5, 0), (6, 0), (7, 0), (8, 0), (9, 0), (10, 0), (11, 0), (12, 0), (13, 0), (14, 0), (15, 0), (16, 0), (17, 0), (18, 0), (19, 0), (20, 0), (21, 0), (22, 0), (23, 2), (24, 3)] mixed_UnI (by kernel_rfl) (by intro j o hj ho; simp only [List.mem_cons, List.mem_nil_iff, Prod.mk.injEq, or_false, false_or, reduceCtorEq, and_false, and_true, Nat.reduceEqDiff] at hj; subst hj; cases ho; exact ⟨rfl, ⟨_, _, rfl, by first | exact zero30_UnI⟩, _, rfl, by decide⟩) ?_
        refine SW.q rfl (.inl rfl) rfl (by decide) (yq_load rfl fb86_UnI rfl (by first | exact Sees.root (by assumption) | exact Sees.own (by repeat (first | exact List.mem_cons_self | exact List.mem_append_left _ (by assumption) | apply List.mem_cons_of_mem | apply List.mem_append_right)) | exact Sees.root (hR _ (by omega)) | exact Sees.own (RowsIn.mem (by repeat (first | exact RowsIn.here | exact RowsIn.last | apply RowsIn.there | apply RowsIn.thereS)) _ (by omega)) | exact Sees.own (WRowsIn.mem (by repeat (first | exact WRowsIn.here | exact WRowsIn.last | apply WRowsIn.there | apply WRowsIn.thereS)) _ (by omega))) rfl) ?_
        refine SW.q rfl (.inl rfl) rfl (by decide) (yq_idx (k := 0) rfl Try.underlying86 sz23_UnI rfl rfl (by first | exact Sees.root (by assumption) | exact Sees.own (by repeat (first | exact List.mem_cons_self | exact List.mem_append_left _ (by assumption) | apply List.mem_cons_of_mem | apply List.mem_append_right)) | exact Sees.root (hR _ (by omega)) | exact Sees.own (RowsIn.mem (by repeat (first | exact RowsIn.here | exact RowsIn.last | apply RowsIn.there | apply RowsIn.thereS)) _ (by omega)) | exact Sees.own (WRowsIn.mem (by repeat (first | exact WRowsIn.here | exact WRowsIn.last | apply WRowsIn.there | apply WRowsIn.thereS)) _ (by omega))) (by first | rfl | omega | (push_cast; rfl) | (push_cast; omega) | exact tmod_nat _ _) (by rw [fl_length, un5_length]) (by omega)) ?_
        refine SW.q rfl (.inl rfl) rfl (by decide) (un5_q 0 (n := 7) rfl (by decide) (yq_loadF rfl fb23_UnI rfl (by first | exact Sees.root (by assumption) | exact Sees.own (by repeat (first | exact List.mem_cons_self | exact List.mem_append_left _ (by assumption) | apply List.mem_cons_of_mem | apply List.mem_append_right)) | exact Sees.root (hR _ (by omega)) | exact Sees.own (RowsIn.mem (by repeat (first | exact RowsIn.here | exact RowsIn.last | apply RowsIn.there | apply RowsIn.thereS)) _ (by omega)) | exact Sees.own (WRowsIn.mem (by repeat (first | exact WRowsIn.here | exact WRowsIn.last | apply WRowsIn.there | apply WRowsIn.thereS)) _ (by omega))) (by rw [un5_length]; decide))) ?_
        refine SW.q rfl (.inl rfl) rfl (by decide) (yq_load rfl fb86_UnI rfl (by first | exact Sees.root (by assumption) | exact Sees.own (by repeat (first | exact List.mem_cons_self | exact List.mem_append_left _ (by assumption) | apply List.mem_cons_of_mem | apply List.mem_append_right)) | exact Sees.root (hR _ (by omega)) | exact Sees.own (RowsIn.mem (by repeat (first | exact RowsIn.here | exact RowsIn.last | apply RowsIn.there | apply RowsIn.thereS)) _ (by omega)) | exact Sees.own (WRowsIn.mem (by repeat (first | exact WRowsIn.here | exact WRowsIn.last | apply WRowsIn.there | apply WRowsIn.thereS)) _ (by omega))) rfl) ?_
        refine SW.q rfl (.inl rfl) rfl (by decide) (yq_idx (k := 1) rfl Try.underlying86 sz23_UnI rfl rfl (by first | exact Sees.root (by assumption) | exact Sees.own (by repeat (first | exact List.mem_cons_self | exact List.mem_append_left _ (by assumption) | apply List.mem_cons_of_mem | apply List.mem_append_right)) | exact Sees.root (hR _ (by omega)) | exact Sees.own (RowsIn.mem (by repeat (first | exact RowsIn.here | exact RowsIn.last | apply RowsIn.there | apply RowsIn.thereS)) _ (by omega)) | exact Sees.own (WRowsIn.mem (by repeat (first | exact WRowsIn.here | exact WRowsIn.last | apply WRowsIn.there | apply WRowsIn.thereS)) _ (by omega))) (by first | rfl | omega | (push_cast; rfl) | (push_cast; omega) | exact tmod_nat _ _) (by rw [fl_length, un5_length]) (by omega)) ?_
        refine SW.q rfl (.inl rfl) rfl (by decide) (un5_q 1 (n := 11) rfl (by decide) (yq_loadF rfl fb23_UnI rfl (by first | exact Sees.root (by assumption) | exact Sees.own (by repeat (first | exact List.mem_cons_self | exact List.mem_append_left _ (by assumption) | apply List.mem_cons_of_mem | apply List.mem_append_right)) | exact Sees.root (hR _ (by omega)) | exact Sees.own (RowsIn.mem (by repeat (first | exact RowsIn.here | exact RowsIn.last | apply RowsIn.there | apply RowsIn.thereS)) _ (by omega)) | exact Sees.own (WRowsIn.mem (by repeat (first | exact WRowsIn.here | exact WRowsIn.last | apply WRowsIn.there | apply WRowsIn.thereS)) _ (by omega))) (by rw [un5_length]; decide))) ?_
        refine SW.q rfl (.inl rfl) rfl (by decide) (yq_load rfl fb86_UnI rfl (by first | exact Sees.root (by assumption) | exact Sees.own (by repeat (first | exact List.mem_cons_self | exact List.mem_append_left _ (by assumption) | apply List.mem_cons_of_mem | apply List.mem_append_right)) | exact Sees.root (hR _ (by omega)) | exact Sees.own (RowsIn.mem (by repeat (first | exact RowsIn.here | exact RowsIn.last | apply RowsIn.there | apply RowsIn.thereS)) _ (by omega)) | exact Sees.own (WRowsIn.mem (by repeat (first | exact WRowsIn.here | exact WRowsIn.last | apply WRowsIn.there | apply WRowsIn.thereS)) _ (by omega))) rfl) ?_
        refine SW.q rfl (.inl rfl) rfl (by decide) (yq_idx (k := 2) rfl Try.underlying86 sz23_UnI rfl rfl (by first | exact Sees.root (by assumption) | exact Sees.own (by repeat (first | exact List.mem_cons_self | exact List.mem_append_left _ (by assumption) | apply List.mem_cons_of_mem | apply List.mem_append_right)) | exact Sees.root (hR _ (by omega)) | exact Sees.own (RowsIn.mem (by repeat (first | exact RowsIn.here | exact RowsIn.last | apply RowsIn.there | apply RowsIn.thereS)) _ (by omega)) | exact Sees.own (WRowsIn.mem (by repeat (first | exact WRowsIn.here | exact WRowsIn.last | apply WRowsIn.there | apply WRowsIn.thereS)) _ (by omega))) (by first | rfl | omega | (push_cast; rfl) | (push_cast; omega) | exact tmod_nat _ _) (by rw [fl_length, un5_length]) (by omega)) ?_
        refine SW.q rfl (.inl rfl) rfl (by decide) (un5_q 2 (n := 15) rfl (by decide) (yq_loadF rfl fb23_UnI rfl (by first | exact Sees.root (by assumption) | exact Sees.own (by repeat (first | exact List.mem_cons_self | exact List.mem_append_left _ (by assumption) | apply List.mem_cons_of_mem | apply List.mem_append_right)) | exact Sees.root (hR _ (by omega)) | exact Sees.own (RowsIn.mem (by repeat (first | exact RowsIn.here | exact RowsIn.last | apply RowsIn.there | apply RowsIn.thereS)) _ (by omega)) | exact Sees.own (WRowsIn.mem (by repeat (first | exact WRowsIn.here | exact WRowsIn.last | apply WRowsIn.there | apply WRowsIn.thereS)) _ (by omega))) (by rw [un5_length]; decide))) ?_
        refine SW.r rfl (.inl rfl) rfl (by decide) (yr_build rfl lay27_UnI rfl (.cons rfl (.cons rfl (.cons rfl .nil))) (by first | (simp; done) | (simp [vv]; done) | (simp [cn, cn1, cn0]; done)) rfl) ?_
        refine SW.q rfl (.inl rfl) rfl (by decide) (yq_load rfl fb86_UnI rfl (by first | exact Sees.root (by assumption) | exact Sees.own (by repeat (first | exact List.mem_cons_self | exact List.mem_append_left _ (by assumption) | apply List.mem_cons_of_mem | apply List.mem_append_right)) | exact Sees.root (hR _ (by omega)) | exact Sees.own (RowsIn.mem (by repeat (first | exact RowsIn.here | exact RowsIn.last | apply RowsIn.there | apply RowsIn.thereS)) _ (by omega)) | exact Sees.own (WRowsIn.mem (by repeat (first | exact WRowsIn.here | exact WRowsIn.last | apply WRowsIn.there | apply WRowsIn.thereS)) _ (by omega))) rfl) ?_
        refine SW.q rfl (.inl rfl) rfl (by decide) (yq_idx (k := 3) rfl Try.underlying86 sz23_UnI rfl rfl (by first | exact Sees.root (by assumption) | exact Sees.own (by repeat (first | exact List.mem_cons_self | exact List.mem_append_left _ (by assumption) | apply List.mem_cons_of_mem | apply List.mem_append_right)) | exact Sees.root (hR _ (by omega)) | exact Sees.own (RowsIn.mem (by repeat (first | exact RowsIn.here | exact RowsIn.last | apply RowsIn.there | apply RowsIn.thereS)) _ (by omega)) | exact Sees.own (WRowsIn.mem (by repeat (first | exact WRowsIn.here | exact WRowsIn.last | apply WRowsIn.there | apply WRowsIn.thereS)) _ (by omega))) (by first | rfl | omega | (push_cast; rfl) | (push_cast; omega) | exact tmod_nat _ _) (by rw [fl_length, un5_length]) (by omega)) ?_
        refine SW.q rfl (.inl rfl) rfl (by decide) (un5_q 3 (n := 19) rfl (by decide) (yq_loadF rfl fb23_UnI rfl (by first | exact Sees.root (by assumption) | exact Sees.own (by repeat (first | exact List.mem_cons_self | exact List.mem_append_left _ (by assumption) | apply List.mem_cons_of_mem | apply List.mem_append_right)) | exact Sees.root (hR _ (by omega)) | exact Sees.own (RowsIn.mem (by repeat (first | exact RowsIn.here | exact RowsIn.last | apply RowsIn.there | apply RowsIn.thereS)) _ (by omega)) | exact Sees.own (WRowsIn.mem (by repeat (first | exact WRowsIn.here | exact WRowsIn.last | apply WRowsIn.there | apply WRowsIn.thereS)) _ (by omega))) (by rw [un5_length]; decide))) ?_
        refine SW.q rfl (.inl rfl) rfl (by decide) (yq_load rfl fb9_UnI rfl (by first | exact Sees.root (by assumption) | exact Sees.own (by repeat (first | exact List.mem_cons_self | exact List.mem_append_left _ (by assumption) | apply List.mem_cons_of_mem | apply List.mem_append_right)) | exact Sees.root (hR _ (by omega)) | exact Sees.own (RowsIn.mem (by repeat (first | exact RowsIn.here | exact RowsIn.last | apply RowsIn.there | apply RowsIn.thereS)) _ (by omega)) | exact Sees.own (WRowsIn.mem (by repeat (first | exact WRowsIn.here | exact WRowsIn.last | apply WRowsIn.there | apply WRowsIn.thereS)) _ (by omega))) rfl) ?_
        refine SW.r rfl (.inl rfl) rfl (by decide) (yr_strByte (i := 4) rfl Try.underlying9 rfl rfl (by first | rfl | omega | (push_cast; rfl) | (push_cast; omega)) (by omega)) ?_
        refine SW.r rfl (.inl rfl) rfl (by decide) (yr_intConv (r := (sb s 4 : Int)) rfl Try.underlying5 Try.underlying2 rfl (i64_nat (by omega))) ?_
        refine SW.q rfl (.inl rfl) rfl (by decide) (yq_load rfl fb9_UnI rfl (by first | exact Sees.root (by assumption) | exact Sees.own (by repeat (first | exact List.mem_cons_self | exact List.mem_append_left _ (by assumption) | apply List.mem_cons_of_mem | apply List.mem_append_right)) | exact Sees.root (hR _ (by omega)) | exact Sees.own (RowsIn.mem (by repeat (first | exact RowsIn.here | exact RowsIn.last | apply RowsIn.there | apply RowsIn.thereS)) _ (by omega)) | exact Sees.own (WRowsIn.mem (by repeat (first | exact WRowsIn.here | exact WRowsIn.last | apply WRowsIn.there | apply WRowsIn.thereS)) _ (by omega))) rfl) ?_
        refine SW.r rfl (.inl rfl) rfl (by decide) (yr_strByte (i := 5) rfl Try.underlying9 rfl rfl (by first | rfl | omega | (push_cast; rfl) | (push_cast; omega)) (by omega)) ?_
        refine SW.r rfl (.inl rfl) rfl (by decide) (yr_intConv (r := (sb s 5 : Int)) rfl Try.underlying5 Try.underlying2 rfl (i64_nat (by omega))) ?_
        refine SW.q rfl (.inl rfl) rfl (by decide) (yq_load rfl fb9_UnI rfl (by first | exact Sees.root (by assumption) | exact Sees.own (by repeat (first | exact List.mem_cons_self | exact List.mem_append_left _ (by assumption) | apply List.mem_cons_of_mem | apply List.mem_append_right)) | exact Sees.root (hR _ (by omega)) | exact Sees.own (RowsIn.mem (by repeat (first | exact RowsIn.here | exact RowsIn.last | apply RowsIn.there | apply RowsIn.thereS)) _ (by omega)) | exact Sees.own (WRowsIn.mem (by repeat (first | exact WRowsIn.here | exact WRowsIn.last | apply WRowsIn.there | apply WRowsIn.thereS)) _ (by omega))) rfl) ?_
        refine SW.r rfl (.inl rfl) rfl (by decide) (yr_strByte (i := 6) rfl Try.underlying9 rfl rfl (by first | rfl | omega | (push_cast; rfl) | (push_cast; omega)) (by omega)) ?_
        refine SW.r rfl (.inl rfl) rfl (by decide) (yr_intConv (r := (sb s 6 : Int)) rfl Try.underlying5 Try.underlying2 rfl (i64_nat (by omega))) ?_
        refine SW.r rfl (.inl rfl) rfl (by decide) (yr_build rfl lay30_UnI rfl (.cons rfl (.cons rfl (.cons rfl (.cons rfl (.cons rfl .nil))))) (by first | (simp; done) | (simp [vv]; done) | (simp [cn, cn1, cn0]; done)) rfl) ?_
        refine SW.a rfl rfl rfl zero30_UnI rfl rfl (by decide) ?_
        intro b6
        refine SW.s rfl (.inl rfl) rfl (yc_store rfl sz30_UnI rfl rfl (by repeat (first | exact UpdF.here | apply UpdF.there | apply UpdF.thereS)) (.inr ⟨rfl, rfl⟩) rfl (by first | exact Nat.le_of_ble_eq_true rfl | simp) (by decide) rfl) ?_
        rintro ⟨⟩
        refine SW.done ?_
        refine VE.then_wp ?_
        refine V.seq ?_
        refine V.region ?_
        refine VL.r (.inl rfl) rfl (by decide) (yr_fieldAddr rfl Try.underlying30 rfl rfl sz2_UnI (by decide) rfl) ?_
        refine VL.q (.inl rfl) rfl (by decide) (yq_load rfl fb2_UnI rfl (by first | exact Sees.root (by assumption) | exact Sees.own (by repeat (first | exact List.mem_cons_self | exact List.mem_append_left _ (by assumption) | apply List.mem_cons_of_mem | apply List.mem_append_right)) | exact Sees.root (hR _ (by omega)) | exact Sees.own (RowsIn.mem (by repeat (first | exact RowsIn.here | exact RowsIn.last | apply RowsIn.there | apply RowsIn.thereS)) _ (by omega)) | exact Sees.own (WRowsIn.mem (by repeat (first | exact WRowsIn.here | exact WRowsIn.last | apply WRowsIn.there | apply WRowsIn.thereS)) _ (by omega))) rfl) ?_
        refine VL.r (.inl rfl) rfl (by decide) (yr_fieldAddr rfl Try.underlying30 rfl rfl sz2_UnI (by decide) rfl) ?_
        refine VL.q (.inl rfl) rfl (by decide) (yq_load rfl fb2_UnI rfl (by first | exact Sees.root (by assumption) | exact Sees.own (by repeat (first | exact List.mem_cons_self | exact List.mem_append_left _ (by assumption) | apply List.mem_cons_of_mem | apply List.mem_append_right)) | exact Sees.root (hR _ (by omega)) | exact Sees.own (RowsIn.mem (by repeat (first | exact RowsIn.here | exact RowsIn.last | apply RowsIn.there | apply RowsIn.thereS)) _ (by omega)) | exact Sees.own (WRowsIn.mem (by repeat (first | exact WRowsIn.here | exact WRowsIn.last | apply WRowsIn.there | apply WRowsIn.thereS)) _ (by omega))) rfl) ?_
        refine VL.r (.inl rfl) rfl (by decide) (yr_mulN (sb s 4) (sb s 5) rfl rfl rfl (by omega) (by omega) (Nat.le_trans (mul_small (by omega) (by omega)) (by decide))) ?_
        refine VL.r (.inl rfl) rfl (by decide) (yr_fieldAddr rfl Try.underlying30 rfl rfl sz2_UnI (by decide) rfl) ?_
        refine VL.q (.inl rfl) rfl (by decide) (yq_load rfl fb2_UnI rfl (by first | exact Sees.root (by assumption) | exact Sees.own (by repeat (first | exact List.mem_cons_self | exact List.mem_append_left _ (by assumption) | apply List.mem_cons_of_mem | apply List.mem_append_right)) | exact Sees.root (hR _ (by omega)) | exact Sees.own (RowsIn.mem (by repeat (first | exact RowsIn.here | exact RowsIn.last | apply RowsIn.there | apply RowsIn.thereS)) _ (by omega)) | exact Sees.own (WRowsIn.mem (by repeat (first | exact WRowsIn.here | exact WRowsIn.last | apply WRowsIn.there | apply WRowsIn.thereS)) _ (by omega))) rfl) ?_
        refine VL.r (.inl rfl) rfl (by decide) (show YR _ _ _ (.int .i64 ((unN s : Nat) : Int)) from yr_mulN (sb s 4 * sb s 5) (sb s 6) rfl rfl rfl rfl rfl (Nat.le_trans (mul_small (by omega) (by omega)) (by decide))) ?_
        refine VL.r (.inl rfl) rfl (by decide) (yr_assign rfl rfl) ?_
        refine VL.nil ?_
        refine VE.then_wp ?_
        refine V.seq ?_
        refine V.seq ?_
        refine V.region ?_
        refine VL.r (.inl rfl) rfl (by decide) (yr_move rfl rfl) ?_
        refine VL.r (.inl rfl) rfl (by decide) (yr_icmp rfl (.inr (.inr (.inr (.inr (.inl rfl))))) rfl rfl) ?_
        refine VL.r (.inl rfl) rfl (by decide) (yr_move rfl rfl) ?_
        refine VX.split 69 _ rfl (fun h5 => ?_) (fun h5 => ?_)
        · skip
          replace h5 := ic_gtr h5
          refine VL.no rfl rfl rfl rfl rfl (by decide) ?_
          refine VL.no rfl rfl rfl rfl rfl (by decide) ?_
          refine VL.no rfl rfl rfl rfl rfl (by decide) ?_
          refine VL.no rfl rfl rfl rfl rfl (by decide) ?_
          refine VL.no rfl rfl rfl rfl rfl (by decide) ?_
          refine VL.no rfl rfl rfl rfl rfl (by decide) ?_
          refine VL.r (.inl rfl) rfl (by decide) (yr_pick_t (u := .bool true) rfl rfl rfl) ?_
          refine VL.nil ?_
          refine VE.then_wp ?_
          refine V.condT rfl ?_
          refine V.seq ?_
          refine V.region ?_
          refine VL.r (.inl rfl) rfl (by decide) (yr_build rfl lay30_UnI rfl .nil (by first | (simp; done) | (simp [vv]; done) | (simp [cn, cn1, cn0]; done)) rfl) ?_
          refine VL.s (.inl rfl) rfl (yc_store rfl sz30_UnI rfl rfl (by repeat (first | exact UpdF.here | apply UpdF.there | apply UpdF.thereS)) (.inr ⟨rfl, rfl⟩) rfl (by first | exact Nat.le_of_ble_eq_true rfl | simp) (by decide) rfl) ?_
          rintro ⟨⟩
          refine VL.r (.inl rfl) rfl (by decide) (yr_assign (u := .bool false) rfl rfl) ?_
          refine VL.nil ?_
          refine VE.then_wp ?_
          refine V.ret ?_
          refine VE.then_ret ?_
          refine retN rfl (.cons (rv_cellS rfl Try.underlying30 sz30_UnI (by first | exact Sees.root (by assumption) | exact Sees.own (by repeat (first | exact List.mem_cons_self | exact List.mem_append_left _ (by assumption) | apply List.mem_cons_of_mem | apply List.mem_append_right)) | exact Sees.root (hR _ (by omega)) | exact Sees.own (RowsIn.mem (by repeat (first | exact RowsIn.here | exact RowsIn.last | apply RowsIn.there | apply RowsIn.thereS)) _ (by omega)) | exact Sees.own (WRowsIn.mem (by repeat (first | exact WRowsIn.here | exact WRowsIn.last | apply WRowsIn.there | apply WRowsIn.thereS)) _ (by omega))) rfl rfl rfl) (.cons (rv_tmp rfl (by nofun)) .nil)) (by nofun) (fun w1 hw => ?_)
          first
            | ((have ho : unOk s = false := unOk_no (by first | exact unPre_no1 (by omega) | exact unPre_no2 (mk_no (by assumption)) | exact unPre_no3 (by omega) | exact unPre_no4 (by omega) | exact unPre_no5 (by assumption))); exact ⟨(none, 0), (unRes_no ho).symm, hw.below, unEnt_no ho, List.pairwise_singleton _ _⟩)
            | (obtain ⟨hj1, hj2, hj3⟩ := un_join hp9 hl9 (fun k hk => hH.2 k (by rw [hl9]; exact hk))
               first
               | (have ho : unOk s = false := hj1 (by assumption)
                  exact ⟨(none, 0), (unRes_no ho).symm, hw.below, unEnt_no ho, List.pairwise_singleton _ _⟩)
               | (have ha : allF vs (vs.length * 3) = true := by assumption
                  have ho : unOk s = false := hj2 ha hq9
                  exact ⟨(none, 0), (unRes_no ho).symm, hw.below, unEnt_no ho, List.pairwise_singleton _ _⟩)
               | (have ha : allF vs (vs.length * 3) = true := by assumption
                  obtain ⟨ho, e⟩ := hj3 ha hq9
                  refine ⟨(ar1, cr1), ?_, ?_⟩
                  · rw [unRes_yes ho, ← e]; rfl
                  · rw [unR_yes ho, ← e]; exact (hw.pick (by apply Pick.one; repeat (first | exact Rem.here | apply Rem.there))).out1))
        · skip
          replace h5 := ic_gtr' h5
          refine VL.q (.inr ⟨_, _, _, rfl, rfl, rfl⟩) rfl (by decide) (yq_load rfl fb9_UnI rfl (by first | exact Sees.root (by assumption) | exact Sees.own (by repeat (first | exact List.mem_cons_self | exact List.mem_append_left _ (by assumption) | apply List.mem_cons_of_mem | apply List.mem_append_right)) | exact Sees.root (hR _ (by omega)) | exact Sees.own (RowsIn.mem (by repeat (first | exact RowsIn.here | exact RowsIn.last | apply RowsIn.there | apply RowsIn.thereS)) _ (by omega)) | exact Sees.own (WRowsIn.mem (by repeat (first | exact WRowsIn.here | exact WRowsIn.last | apply WRowsIn.there | apply WRowsIn.thereS)) _ (by omega))) rfl) ?_
          refine VL.r (.inr ⟨_, _, _, rfl, rfl, rfl⟩) rfl (by decide) (yr_lenString rfl Try.underlying9 rfl) ?_
          refine VL.r (.inr ⟨_, _, _, rfl, rfl, rfl⟩) rfl (by decide) (yr_move rfl rfl) ?_
          refine VL.r (.inr ⟨_, _, _, rfl, rfl, rfl⟩) rfl (by decide) (yr_mulN 6 (unN s) rfl rfl rfl (by omega) (by omega) (Nat.le_trans (mul_small (by omega) (by omega)) (by decide))) ?_
          refine VL.r (.inr ⟨_, _, _, rfl, rfl, rfl⟩) rfl (by decide) (yr_int rfl rfl rfl (.inl ⟨rfl, wrap_in (by omega)⟩)) ?_
          refine VL.r (.inr ⟨_, _, _, rfl, rfl, rfl⟩) rfl (by decide) (yr_icmp rfl (.inr (.inl rfl)) rfl rfl) ?_
          refine VL.r (.inl rfl) rfl (by decide) (yr_pick_f rfl rfl rfl) ?_
          refine VL.nil ?_
          refine VE.then_wp ?_
          refine V.cond rfl (fun h7 => ?_) (fun h7 => ?_)
          · skip
            replace h7 := ic_neq h7
            refine V.seq ?_
            refine V.region ?_
            refine VL.r (.inl rfl) rfl (by decide) (yr_build rfl lay30_UnI rfl .nil (by first | (simp; done) | (simp [vv]; done) | (simp [cn, cn1, cn0]; done)) rfl) ?_
            refine VL.s (.inl rfl) rfl (yc_store rfl sz30_UnI rfl rfl (by repeat (first | exact UpdF.here | apply UpdF.there | apply UpdF.thereS)) (.inr ⟨rfl, rfl⟩) rfl (by first | exact Nat.le_of_ble_eq_true rfl | simp) (by decide) rfl) ?_
            rintro ⟨⟩
            refine VL.r (.inl rfl) rfl (by decide) (yr_assign (u := .bool false) rfl rfl) ?_
            refine VL.nil ?_
            refine VE.then_wp ?_
            refine V.ret ?_
            refine VE.then_ret ?_
            refine retN rfl (.cons (rv_cellS rfl Try.underlying30 sz30_UnI (by first | exact Sees.root (by assumption) | exact Sees.own (by repeat (first | exact List.mem_cons_self | exact List.mem_append_left _ (by assumption) | apply List.mem_cons_of_mem | apply List.mem_append_right)) | exact Sees.root (hR _ (by omega)) | exact Sees.own (RowsIn.mem (by repeat (first | exact RowsIn.here | exact RowsIn.last | apply RowsIn.there | apply RowsIn.thereS)) _ (by omega)) | exact Sees.own (WRowsIn.mem (by repeat (first | exact WRowsIn.here | exact WRowsIn.last | apply WRowsIn.there | apply WRowsIn.thereS)) _ (by omega))) rfl rfl rfl) (.cons (rv_tmp rfl (by nofun)) .nil)) (by nofun) (fun w1 hw => ?_)
            first
              | ((have ho : unOk s = false := unOk_no (by first | exact unPre_no1 (by omega) | exact unPre_no2 (mk_no (by assumption)) | exact unPre_no3 (by omega) | exact unPre_no4 (by omega) | exact unPre_no5 (by assumption))); exact ⟨(none, 0), (unRes_no ho).symm, hw.below, unEnt_no ho, List.pairwise_singleton _ _⟩)
              | (obtain ⟨hj1, hj2, hj3⟩ := un_join hp9 hl9 (fun k hk => hH.2 k (by rw [hl9]; exact hk))
                 first
                 | (have ho : unOk s = false := hj1 (by assumption)
                    exact ⟨(none, 0), (unRes_no ho).symm, hw.below, unEnt_no ho, List.pairwise_singleton _ _⟩)
                 | (have ha : allF vs (vs.length * 3) = true := by assumption
                    have ho : unOk s = false := hj2 ha hq9
                    exact ⟨(none, 0), (unRes_no ho).symm, hw.below, unEnt_no ho, List.pairwise_singleton _ _⟩)
                 | (have ha : allF vs (vs.length * 3) = true := by assumption
                    obtain ⟨ho, e⟩ := hj3 ha hq9
                    refine ⟨(ar1, cr1), ?_, ?_⟩
                    · rw [unRes_yes ho, ← e]; rfl
                    · rw [unR_yes ho, ← e]; exact (hw.pick (by apply Pick.one; repeat (first | exact Rem.here | apply Rem.there))).out1))
          · skip
            replace h7 := ic_neq' h7
            refine VX.own (fun w hw => hw.nilU 27) ?_
            refine V.skip ?_
            refine VE.then_wp ?_
            refine V.seq ?_
            refine V.region ?_
            refine VL.r (.inl rfl) rfl (by decide) (yr_func2 rfl rfl rfl) ?_
            refine VL.r (.inl rfl) rfl (by decide) (yr_assign rfl rfl) ?_
            refine VL.nil ?_
            refine VE.then_wp ?_
            refine V.seq ?_
            refine V.seq ?_
            refine V.region ?_
            refine VL.r (.inl rfl) rfl (by decide) (yr_move rfl rfl) ?_
            refine VL.r (.inl rfl) rfl (by decide) (yr_move (u := .int .i64 0) rfl rfl) ?_
            refine VL.nil ?_
            refine VE.then_wp ?_
            refine V.block ?_
            refine V.loopc (G := (List V3) × (Option Addr) × Nat) [(1, _), (2, _), (6, _), (8, _), (79, _)] (fun ⟨vs, ar1, cr1⟩ => vs.length ≤ unN s ∧ unH s vs) (fun ⟨vs, ar1, cr1⟩ => [⟨some ⟨b6, 0, none⟩, [.float .f32 (cb .f32 (rd4 s 7)), .float .f32 (cb .f32 (rd4 s 11)), .float .f32 (cb .f32 (rd4 s 15)), .float .f32 (cb .f32 (rd4 s 19)), .int .i64 (sb s 4 : Int), .int .i64 (sb s 5 : Int), .int .i64 (sb s 6 : Int), .slice ar1 vs.length cr1], 8, 30⟩, ⟨ar1, vl vs, cr1 * 3, 27⟩, ⟨some ⟨b4, 0, none⟩, [.slice ar 5 cr], 1, 86⟩, ⟨ar, fl (un5 s 5), cr * 1, 23⟩, ⟨some ⟨b1, 0, none⟩, [.string s], 1, 9⟩, ⟨some ⟨b2, 0, none⟩, [.float .f32 0, .float .f32 0, .float .f32 0, .float .f32 0, .int .i64 0, .int .i64 0, .int .i64 0, .slice none 0 0], 8, 30⟩]) (fun ⟨vs, ar1, cr1⟩ => [(80, .int .i64 (vs.length : Int))]) (fun ⟨vs, ar1, cr1⟩ => unN s - vs.length) ([], none, 0) (.cons rfl (.cons rfl (.cons rfl (.cons rfl (.cons rfl .nil))))) (.cons rfl .nil) ?_ ?_ ?_
            · exact (fun w hw => hw.pick (by apply Pick.e6; all_goals (repeat (first | exact Rem.here | apply Rem.there))))
            · exact (by exact ⟨Nat.zero_le _, unH_0⟩)
            rintro ⟨vs, ar1, cr1⟩ ⟨hl, hH⟩
            show V _ _ _ [⟨some ⟨b6, 0, none⟩, [.float .f32 (cb .f32 (rd4 s 7)), .float .f32 (cb .f32 (rd4 s 11)), .float .f32 (cb .f32 (rd4 s 15)), .float .f32 (cb .f32 (rd4 s 19)), .int .i64 (sb s 4 : Int), .int .i64 (sb s 5 : Int), .int .i64 (sb s 6 : Int), .slice ar1 vs.length cr1], 8, 30⟩, ⟨ar1, vl vs, cr1 * 3, 27⟩, ⟨some ⟨b4, 0, none⟩, [.slice ar 5 cr], 1, 86⟩, ⟨ar, fl (un5 s 5), cr * 1, 23⟩, ⟨some ⟨b1, 0, none⟩, [.string s], 1, 9⟩, ⟨some ⟨b2, 0, none⟩, [.float .f32 0, .float .f32 0, .float .f32 0, .float .f32 0, .int .i64 0, .int .i64 0, .int .i64 0, .slice none 0 0], 8, 30⟩] ([(80, .int .i64 (vs.length : Int))] ++ [(1, _), (2, _), (6, _), (8, _), (79, _)]) _ _
            refine V.seq ?_
            refine V.region ?_
            refine VL.r (.inl rfl) rfl (by decide) (yr_icmp rfl (.inr (.inr (.inl rfl))) rfl rfl) ?_
            refine VL.nil ?_
            refine VE.then_wp ?_
            refine V.seq ?_
            refine V.cond rfl (fun h8 => ?_) (fun h8 => ?_)
            · skip
              replace h8 := ic_lss h8
              refine V.skip ?_
              refine VE.then_wp ?_
              refine V.seq ?_
              refine V.block ?_
              refine V.seq ?_
              refine V.region ?_
              refine VL.r (.inl rfl) rfl (by decide) (yr_move rfl rfl) ?_
              refine VL.r (.inl rfl) rfl (by decide) (yr_assign rfl rfl) ?_
              refine VL.nil ?_
              refine VE.then_wp ?_
              refine V.seq ?_
              refine V.region ?_
              refine VL.r (.inl rfl) rfl (by decide) (yr_move rfl rfl) ?_
              refine VL.r (.inl rfl) rfl (by decide) (yr_mulN 6 vs.length rfl rfl rfl rfl rfl (by omega)) ?_
              refine VL.r (.inl rfl) rfl (by decide) (yr_addN (27 + 6 * vs.length) rfl rfl rfl (by push_cast; rfl) (by omega)) ?_
              refine VL.r (.inl rfl) rfl (by decide) (yr_assign rfl rfl) ?_
              refine VL.nil ?_
              refine VE.then_wp ?_
              refine V.draw [(0, 0), (1, 0), (2, 0), (3, 0), (5, 0), (6, 0), (7, 0), (9, 0), (10, 0), (11, 0), (4, 1), (8, 1), (12, 1), (13, 0), (14, 1), (15, 3), (16, 0), (17, 3)] mixed_UnI (by kernel_rfl) (by intro j o hj; simp at hj) ?_
              refine SW.r rfl (.inl rfl) rfl (by decide) (yr_fieldAddr rfl Try.underlying30 rfl rfl sz28_UnI (by decide) rfl) ?_
              refine SW.q rfl (.inl rfl) rfl (by decide) (yq_load rfl fb28_UnI rfl (by first | exact Sees.root (by assumption) | exact Sees.own (by repeat (first | exact List.mem_cons_self | exact List.mem_append_left _ (by assumption) | apply List.mem_cons_of_mem | apply List.mem_append_right)) | exact Sees.root (hR _ (by omega)) | exact Sees.own (RowsIn.mem (by repeat (first | exact RowsIn.here | exact RowsIn.last | apply RowsIn.there | apply RowsIn.thereS)) _ (by omega)) | exact Sees.own (WRowsIn.mem (by repeat (first | exact WRowsIn.here | exact WRowsIn.last | apply WRowsIn.there | apply WRowsIn.thereS)) _ (by omega))) rfl) ?_
              refine SW.r rfl (.inl rfl) rfl (by decide) (yr_move rfl rfl) ?_
              refine SW.r rfl (.inl rfl) rfl (by decide) (yr_move rfl rfl) ?_
              refine SW.r rfl (.inl rfl) rfl (by decide) (yr_move rfl rfl) ?_
              refine SW.r rfl (.inl rfl) rfl (by decide) (yr_move rfl rfl) ?_
              refine SW.r rfl (.inl rfl) rfl (by decide) (yr_addN (27 + 6 * vs.length + 2) rfl rfl rfl (by push_cast; rfl) (by omega)) ?_
              refine SW.r rfl (.inl rfl) rfl (by decide) (yr_move rfl rfl) ?_
              refine SW.r rfl (.inl rfl) rfl (by decide) (yr_move rfl rfl) ?_
              refine SW.r rfl (.inl rfl) rfl (by decide) (yr_addN (27 + 6 * vs.length + 4) rfl rfl rfl (by push_cast; rfl) (by omega)) ?_
              refine SW.new rfl (.inl rfl) rfl (by decide) (yn_call rfl known56_UnI rfl (.cons rfl .nil) (fun w hw => c_unOne (xs := un5 s 5) (p := 27 + 6 * vs.length) (by first | exact Sees.root (by assumption) w hw | exact Sees.own (by repeat (first | exact List.mem_cons_self | exact List.mem_append_left _ (by assumption) | apply List.mem_cons_of_mem | apply List.mem_append_right)) w hw) (by first | exact Sees.root (by assumption) w hw | exact Sees.own (by repeat (first | exact List.mem_cons_self | exact List.mem_append_left _ (by assumption) | apply List.mem_cons_of_mem | apply List.mem_append_right)) w hw) (by first | exact Sees.root (by assumption) w hw | exact Sees.own (by repeat (first | exact List.mem_cons_self | exact List.mem_append_left _ (by assumption) | apply List.mem_cons_of_mem | apply List.mem_append_right)) w hw) un5_length (by omega) (by omega))) ?_
              rintro ⟨v90, hv90⟩
              refine SW.new rfl (.inl rfl) rfl (by decide) (yn_call rfl known56_UnI rfl (.cons rfl .nil) (fun w hw => c_unOne (xs := un5 s 5) (p := 27 + 6 * vs.length + 2) (by first | exact Sees.root (by assumption) w hw | exact Sees.own (by repeat (first | exact List.mem_cons_self | exact List.mem_append_left _ (by assumption) | apply List.mem_cons_of_mem | apply List.mem_append_right)) w hw) (by first | exact Sees.root (by assumption) w hw | exact Sees.own (by repeat (first | exact List.mem_cons_self | exact List.mem_append_left _ (by assumption) | apply List.mem_cons_of_mem | apply List.mem_append_right)) w hw) (by first | exact Sees.root (by assumption) w hw | exact Sees.own (by repeat (first | exact List.mem_cons_self | exact List.mem_append_left _ (by assumption) | apply List.mem_cons_of_mem | apply List.mem_append_right)) w hw) un5_length (by omega) (by omega))) ?_
              rintro ⟨v94, hv94⟩
              refine SW.new rfl (.inl rfl) rfl (by decide) (yn_call rfl known56_UnI rfl (.cons rfl .nil) (fun w hw => c_unOne (xs := un5 s 5) (p := 27 + 6 * vs.length + 4) (by first | exact Sees.root (by assumption) w hw | exact Sees.own (by repeat (first | exact List.mem_cons_self | exact List.mem_append_left _ (by assumption) | apply List.mem_cons_of_mem | apply List.mem_append_right)) w hw) (by first | exact Sees.root (by assumption) w hw | exact Sees.own (by repeat (first | exact List.mem_cons_self | exact List.mem_append_left _ (by assumption) | apply List.mem_cons_of_mem | apply List.mem_append_right)) w hw) (by first | exact Sees.root (by assumption) w hw | exact Sees.own (by repeat (first | exact List.mem_cons_self | exact List.mem_append_left _ (by assumption) | apply List.mem_cons_of_mem | apply List.mem_append_right)) w hw) un5_length (by omega) (by omega))) ?_
              rintro ⟨v98, hv98⟩
              refine SW.r rfl (.inl rfl) rfl (by decide) (yr_build rfl lay27_UnI rfl (.cons rfl (.cons rfl (.cons rfl .nil))) (by first | (simp; done) | (simp [vv]; done) | (simp [cn, cn1, cn0]; done)) rfl) ?_
              refine SW.new1 rfl (.inl rfl) rfl (by decide) (yn_buildSlice rfl Try.underlying28 elt27_UnI rfl (by decide) (.cons rfl .nil) (by simp) rfl rfl) ?_
              intro b100
              refine SW.c rfl (.inl rfl) rfl (by decide) (yc_appendz 3 rfl rfl Try.underlying28 elt27_UnI rfl rfl (by repeat (first | exact UpdF.here | apply UpdF.there | apply UpdF.thereS)) (by first | exact Sees.root (by assumption) | exact Sees.own (by repeat (first | exact List.mem_cons_self | exact List.mem_append_left _ (by assumption) | apply List.mem_cons_of_mem | apply List.mem_append_right)) | exact Sees.root (hR _ (by omega)) | exact Sees.own (RowsIn.mem (by repeat (first | exact RowsIn.here | exact RowsIn.last | apply RowsIn.there | apply RowsIn.thereS)) _ (by omega)) | exact Sees.own (WRowsIn.mem (by repeat (first | exact WRowsIn.here | exact WRowsIn.last | apply WRowsIn.there | apply WRowsIn.thereS)) _ (by omega))) rfl (by first | (rw [fl_length, un5_length]; done) | (rw [fl_length, un5_length, Nat.mul_one]; done) | (rw [vl_length]; done)) rfl (by first | exact fl_scal _ | exact vl_scal _) rfl (by omega) (by omega)) ?_
              rintro ⟨a101, c101⟩
              refine SW.r rfl (.inl rfl) rfl (by decide) (yr_fieldAddr rfl Try.underlying30 rfl rfl sz28_UnI (by decide) rfl) ?_
              refine SW.s rfl (.inl rfl) rfl (yc_store rfl sz28_UnI rfl rfl (by repeat (first | exact UpdF.here | apply UpdF.there | apply UpdF.thereS)) (.inl ⟨rfl, rfl⟩) rfl (by first | exact Nat.le_of_ble_eq_true rfl | simp) (by decide) rfl) ?_
              rintro ⟨⟩
              refine SW.done ?_
              refine VE.block_normal ?_
              refine VE.then_wp ?_
              refine V.region ?_
              refine VL.r (.inl rfl) rfl (by decide) (yr_int rfl rfl rfl (.inl ⟨rfl, wrap_in (by omega)⟩)) ?_
              refine VL.r (.inl rfl) rfl (by decide) (yr_move rfl rfl) ?_
              refine VL.nil ?_
              refine VE.round (vs ++ [(v90, v94, v98)], a101, c101) ?_ ?_ ?_ ?_ ?_
              · exact (.cons (congrArg (fun i => some (Value.int .i64 i)) (by rw [List.length_append]; rfl)) .nil)
              · exact (.cons rfl (.cons rfl (.cons rfl (.cons rfl (.cons rfl .nil)))))
              · exact (fun w hw => by dsimp only; rw [← vl_snoc, List.length_append]; exact hw.pick (by apply Pick.e6; all_goals (repeat (first | exact Rem.here | apply Rem.there))))
              · exact ⟨by rw [List.length_append]; show vs.length + 1 ≤ unN s; omega, unH_s hH hv90 hv94 hv98 (un5_get (by decide)) (by omega) (by omega) (by omega)⟩
              · dsimp only; rw [List.length_append]; show unN s - (vs.length + 1) < unN s - vs.length; omega
            · skip
              replace h8 := ic_lss' h8
              have hl9 : vs.length = unN s := by omega
              refine V.exit ?_
              refine VE.then_exit ?_
              refine VE.then_exit ?_
              refine VE.block_here ?_
              refine VE.then_wp ?_
              refine V.seq ?_
              refine V.seq ?_
              refine V.region ?_
              refine VL.q (.inl rfl) rfl (by decide) (yq_loadS rfl Try.underlying30 sz30_UnI rfl (by first | exact Sees.root (by assumption) | exact Sees.own (by repeat (first | exact List.mem_cons_self | exact List.mem_append_left _ (by assumption) | apply List.mem_cons_of_mem | apply List.mem_append_right)) | exact Sees.root (hR _ (by omega)) | exact Sees.own (RowsIn.mem (by repeat (first | exact RowsIn.here | exact RowsIn.last | apply RowsIn.there | apply RowsIn.thereS)) _ (by omega)) | exact Sees.own (WRowsIn.mem (by repeat (first | exact WRowsIn.here | exact WRowsIn.last | apply WRowsIn.there | apply WRowsIn.thereS)) _ (by omega))) rfl rfl rfl) ?_
              refine VL.q (.inl rfl) rfl (by decide) (yq_callf rfl known57_UnI (.cons rfl .nil) (fun w hw => c_implMesh)) ?_
              refine VL.r (.inl rfl) rfl (by decide) (yr_not rfl rfl) ?_
              refine VL.nil ?_
              refine VE.then_wp ?_
              refine V.cond rfl (fun h9 => ?_) (fun h9 => ?_)
              · skip
                replace h9 := bnot_t h9
                have hms : unMs s = false := by unfold unMs; rw [← hl9]; exact h9
                refine V.seq ?_
                refine V.region ?_
                refine VL.r (.inl rfl) rfl (by decide) (yr_build rfl lay30_UnI rfl .nil (by first | (simp; done) | (simp [vv]; done) | (simp [cn, cn1, cn0]; done)) rfl) ?_
                refine VL.s (.inl rfl) rfl (yc_store rfl sz30_UnI rfl rfl (by repeat (first | exact UpdF.here | apply UpdF.there | apply UpdF.thereS)) (.inr ⟨rfl, rfl⟩) rfl (by first | exact Nat.le_of_ble_eq_true rfl | simp) (by decide) rfl) ?_
                rintro ⟨⟩
                refine VL.r (.inl rfl) rfl (by decide) (yr_assign (u := .bool false) rfl rfl) ?_
                refine VL.nil ?_
                refine VE.then_wp ?_
                refine V.ret ?_
                refine VE.then_ret ?_
                refine retN rfl (.cons (rv_cellS rfl Try.underlying30 sz30_UnI (by first | exact Sees.root (by assumption) | exact Sees.own (by repeat (first | exact List.mem_cons_self | exact List.mem_append_left _ (by assumption) | apply List.mem_cons_of_mem | apply List.mem_append_right)) | exact Sees.root (hR _ (by omega)) | exact Sees.own (RowsIn.mem (by repeat (first | exact RowsIn.here | exact RowsIn.last | apply RowsIn.there | apply RowsIn.thereS)) _ (by omega)) | exact Sees.own (WRowsIn.mem (by repeat (first | exact WRowsIn.here | exact WRowsIn.last | apply WRowsIn.there | apply WRowsIn.thereS)) _ (by omega))) rfl rfl rfl) (.cons (rv_tmp rfl (by nofun)) .nil)) (by nofun) (fun w1 hw => ?_)
                first
                  | ((have ho : unOk s = false := unOk_no (by first | exact unPre_no1 (by omega) | exact unPre_no2 (mk_no (by assumption)) | exact unPre_no3 (by omega) | exact unPre_no4 (by omega) | exact unPre_no5 (by assumption))); exact ⟨(none, 0), (unRes_no ho).symm, hw.below, unEnt_no ho, List.pairwise_singleton _ _⟩)
                  | (obtain ⟨hj1, hj2, hj3⟩ := un_join hp9 hl9 (fun k hk => hH.2 k (by rw [hl9]; exact hk))
                     first
                     | (have ho : unOk s = false := hj1 (by assumption)
                        exact ⟨(none, 0), (unRes_no ho).symm, hw.below, unEnt_no ho, List.pairwise_singleton _ _⟩)
                     | (have ha : allF vs (vs.length * 3) = true := by assumption
                        have ho : unOk s = false := hj2 ha hq9
                        exact ⟨(none, 0), (unRes_no ho).symm, hw.below, unEnt_no ho, List.pairwise_singleton _ _⟩)
                     | (have ha : allF vs (vs.length * 3) = true := by assumption
                        obtain ⟨ho, e⟩ := hj3 ha hq9
                        refine ⟨(ar1, cr1), ?_, ?_⟩
                        · rw [unRes_yes ho, ← e]; rfl
                        · rw [unR_yes ho, ← e]; exact (hw.pick (by apply Pick.one; repeat (first | exact Rem.here | apply Rem.there))).out1))
              · skip
                replace h9 := bnot_f h9
                have hms : unMs s = true := by unfold unMs; rw [← hl9]; exact h9
                have hp9 : unPre s = true := unPre_yes (by omega) hmk (by omega) (by omega) hms
                refine V.skip ?_
                refine VE.then_wp ?_
                refine V.seq ?_
                refine V.seq ?_
                refine V.region ?_
                refine VL.q (.inl rfl) rfl (by decide) (yq_loadS rfl Try.underlying30 sz30_UnI rfl (by first | exact Sees.root (by assumption) | exact Sees.own (by repeat (first | exact List.mem_cons_self | exact List.mem_append_left _ (by assumption) | apply List.mem_cons_of_mem | apply List.mem_append_right)) | exact Sees.root (hR _ (by omega)) | exact Sees.own (RowsIn.mem (by repeat (first | exact RowsIn.here | exact RowsIn.last | apply RowsIn.there | apply RowsIn.thereS)) _ (by omega)) | exact Sees.own (WRowsIn.mem (by repeat (first | exact WRowsIn.here | exact WRowsIn.last | apply WRowsIn.there | apply WRowsIn.thereS)) _ (by omega))) rfl rfl rfl) ?_
                refine VL.q (.inl rfl) rfl (by decide) (yq_callf rfl known58_UnI (.cons rfl .nil) (fun w hw => (c_implPack (by first | exact Sees.root (by assumption) w hw | exact Sees.own (by repeat (first | exact List.mem_cons_self | exact List.mem_append_left _ (by assumption) | apply List.mem_cons_of_mem | apply List.mem_append_right)) w hw) hH.1 can_unF can_unSt (by omega)))) ?_
                refine VL.r (.inl rfl) rfl (by decide) (yr_move rfl rfl) ?_
                refine VL.r (.inl rfl) rfl (by decide) (yr_extract rfl rfl rfl (by nofun)) ?_
                refine VL.r (.inl rfl) rfl (by decide) (yr_extract rfl rfl rfl (by nofun)) ?_
                refine VL.r (.inl rfl) rfl (by decide) (yr_assign rfl rfl) ?_
                refine VL.r (.inl rfl) rfl (by decide) (yr_assign rfl rfl) ?_
                refine VL.nil ?_
                refine VE.then_wp ?_
                refine V.seq ?_
                refine V.region ?_
                refine VL.r (.inl rfl) rfl (by decide) (yr_move rfl rfl) ?_
                refine VL.r (.inl rfl) rfl (by decide) (yr_not rfl rfl) ?_
                refine VL.r (.inl rfl) rfl (by decide) (yr_move rfl rfl) ?_
                refine VX.split 115 _ rfl (fun h10 => ?_) (fun h10 => ?_)
                · skip
                  replace h10 := bnot_t h10
                  refine VL.no rfl rfl rfl rfl rfl (by decide) ?_
                  refine VL.no rfl rfl rfl rfl rfl (by decide) ?_
                  refine VL.no rfl rfl rfl rfl rfl (by decide) ?_
                  refine VL.r (.inl rfl) rfl (by decide) (yr_pick_t (u := .bool true) rfl rfl rfl) ?_
                  refine VL.nil ?_
                  refine VE.then_wp ?_
                  refine V.condT rfl ?_
                  refine V.seq ?_
                  refine V.region ?_
                  refine VL.r (.inl rfl) rfl (by decide) (yr_build rfl lay30_UnI rfl .nil (by first | (simp; done) | (simp [vv]; done) | (simp [cn, cn1, cn0]; done)) rfl) ?_
                  refine VL.s (.inl rfl) rfl (yc_store rfl sz30_UnI rfl rfl (by repeat (first | exact UpdF.here | apply UpdF.there | apply UpdF.thereS)) (.inr ⟨rfl, rfl⟩) rfl (by first | exact Nat.le_of_ble_eq_true rfl | simp) (by decide) rfl) ?_
                  rintro ⟨⟩
                  refine VL.r (.inl rfl) rfl (by decide) (yr_assign (u := .bool false) rfl rfl) ?_
                  refine VL.nil ?_
                  refine VE.then_wp ?_
                  refine V.ret ?_
                  refine VE.then_ret ?_
                  refine retN rfl (.cons (rv_cellS rfl Try.underlying30 sz30_UnI (by first | exact Sees.root (by assumption) | exact Sees.own (by repeat (first | exact List.mem_cons_self | exact List.mem_append_left _ (by assumption) | apply List.mem_cons_of_mem | apply List.mem_append_right)) | exact Sees.root (hR _ (by omega)) | exact Sees.own (RowsIn.mem (by repeat (first | exact RowsIn.here | exact RowsIn.last | apply RowsIn.there | apply RowsIn.thereS)) _ (by omega)) | exact Sees.own (WRowsIn.mem (by repeat (first | exact WRowsIn.here | exact WRowsIn.last | apply WRowsIn.there | apply WRowsIn.thereS)) _ (by omega))) rfl rfl rfl) (.cons (rv_tmp rfl (by nofun)) .nil)) (by nofun) (fun w1 hw => ?_)
                  first
                    | ((have ho : unOk s = false := unOk_no (by first | exact unPre_no1 (by omega) | exact unPre_no2 (mk_no (by assumption)) | exact unPre_no3 (by omega) | exact unPre_no4 (by omega) | exact unPre_no5 (by assumption))); exact ⟨(none, 0), (unRes_no ho).symm, hw.below, unEnt_no ho, List.pairwise_singleton _ _⟩)
                    | (obtain ⟨hj1, hj2, hj3⟩ := un_join hp9 hl9 (fun k hk => hH.2 k (by rw [hl9]; exact hk))
                       first
                       | (have ho : unOk s = false := hj1 (by assumption)
                          exact ⟨(none, 0), (unRes_no ho).symm, hw.below, unEnt_no ho, List.pairwise_singleton _ _⟩)
                       | (have ha : allF vs (vs.length * 3) = true := by assumption
                          have ho : unOk s = false := hj2 ha hq9
                          exact ⟨(none, 0), (unRes_no ho).symm, hw.below, unEnt_no ho, List.pairwise_singleton _ _⟩)
                       | (have ha : allF vs (vs.length * 3) = true := by assumption
                          obtain ⟨ho, e⟩ := hj3 ha hq9
                          refine ⟨(ar1, cr1), ?_, ?_⟩
                          · rw [unRes_yes ho, ← e]; rfl
                          · rw [unR_yes ho, ← e]; exact (hw.pick (by apply Pick.one; repeat (first | exact Rem.here | apply Rem.there))).out1))
                · skip
                  replace h10 := bnot_f h10
                  refine VL.r (.inr ⟨_, _, _, rfl, rfl, rfl⟩) rfl (by decide) (yr_move rfl rfl) ?_
                  refine VL.q (.inr ⟨_, _, _, rfl, rfl, rfl⟩) rfl (by decide) (yq_load rfl fb9_UnI rfl (by first | exact Sees.root (by assumption) | exact Sees.own (by repeat (first | exact List.mem_cons_self | exact List.mem_append_left _ (by assumption) | apply List.mem_cons_of_mem | apply List.mem_append_right)) | exact Sees.root (hR _ (by omega)) | exact Sees.own (RowsIn.mem (by repeat (first | exact RowsIn.here | exact RowsIn.last | apply RowsIn.there | apply RowsIn.thereS)) _ (by omega)) | exact Sees.own (WRowsIn.mem (by repeat (first | exact WRowsIn.here | exact WRowsIn.last | apply WRowsIn.there | apply WRowsIn.thereS)) _ (by omega))) rfl) ?_
                  refine VL.r (.inr ⟨_, _, _, rfl, rfl, rfl⟩) rfl (by decide) (yr_scmp rfl rfl rfl (.inr rfl)) ?_
                  refine VL.r (.inl rfl) rfl (by decide) (yr_pick_f rfl rfl rfl) ?_
                  refine VL.nil ?_
                  refine VE.then_wp ?_
                  refine V.cond rfl (fun h12 => ?_) (fun h12 => ?_)
                  · skip
                    rw [if_pos (show allF vs (vs.length * 3) = true by assumption)] at h12
                    have hq9 := pkk_no h12
                    refine V.seq ?_
                    refine V.region ?_
                    refine VL.r (.inl rfl) rfl (by decide) (yr_build rfl lay30_UnI rfl .nil (by first | (simp; done) | (simp [vv]; done) | (simp [cn, cn1, cn0]; done)) rfl) ?_
                    refine VL.s (.inl rfl) rfl (yc_store rfl sz30_UnI rfl rfl (by repeat (first | exact UpdF.here | apply UpdF.there | apply UpdF.thereS)) (.inr ⟨rfl, rfl⟩) rfl (by first | exact Nat.le_of_ble_eq_true rfl | simp) (by decide) rfl) ?_
                    rintro ⟨⟩
                    refine VL.r (.inl rfl) rfl (by decide) (yr_assign (u := .bool false) rfl rfl) ?_
                    refine VL.nil ?_
                    refine VE.then_wp ?_
                    refine V.ret ?_
                    refine VE.then_ret ?_
                    refine retN rfl (.cons (rv_cellS rfl Try.underlying30 sz30_UnI (by first | exact Sees.root (by assumption) | exact Sees.own (by repeat (first | exact List.mem_cons_self | exact List.mem_append_left _ (by assumption) | apply List.mem_cons_of_mem | apply List.mem_append_right)) | exact Sees.root (hR _ (by omega)) | exact Sees.own (RowsIn.mem (by repeat (first | exact RowsIn.here | exact RowsIn.last | apply RowsIn.there | apply RowsIn.thereS)) _ (by omega)) | exact Sees.own (WRowsIn.mem (by repeat (first | exact WRowsIn.here | exact WRowsIn.last | apply WRowsIn.there | apply WRowsIn.thereS)) _ (by omega))) rfl rfl rfl) (.cons (rv_tmp rfl (by nofun)) .nil)) (by nofun) (fun w1 hw => ?_)
                    first
                      | ((have ho : unOk s = false := unOk_no (by first | exact unPre_no1 (by omega) | exact unPre_no2 (mk_no (by assumption)) | exact unPre_no3 (by omega) | exact unPre_no4 (by omega) | exact unPre_no5 (by assumption))); exact ⟨(none, 0), (unRes_no ho).symm, hw.below, unEnt_no ho, List.pairwise_singleton _ _⟩)
                      | (obtain ⟨hj1, hj2, hj3⟩ := un_join hp9 hl9 (fun k hk => hH.2 k (by rw [hl9]; exact hk))
                         first
                         | (have ho : unOk s = false := hj1 (by assumption)
                            exact ⟨(none, 0), (unRes_no ho).symm, hw.below, unEnt_no ho, List.pairwise_singleton _ _⟩)
                         | (have ha : allF vs (vs.length * 3) = true := by assumption
                            have ho : unOk s = false := hj2 ha hq9
                            exact ⟨(none, 0), (unRes_no ho).symm, hw.below, unEnt_no ho, List.pairwise_singleton _ _⟩)
                         | (have ha : allF vs (vs.length * 3) = true := by assumption
                            obtain ⟨ho, e⟩ := hj3 ha hq9
                            refine ⟨(ar1, cr1), ?_, ?_⟩
                            · rw [unRes_yes ho, ← e]; rfl
                            · rw [unR_yes ho, ← e]; exact (hw.pick (by apply Pick.one; repeat (first | exact Rem.here | apply Rem.there))).out1))
                  · skip
                    rw [if_pos (show allF vs (vs.length * 3) = true by assumption)] at h12
                    have hq9 := pkk_yes h12
                    refine V.skip ?_
                    refine VE.then_wp ?_
                    refine V.seq ?_
                    refine V.region ?_
                    refine VL.q (.inl rfl) rfl (by decide) (yq_loadS rfl Try.underlying30 sz30_UnI rfl (by first | exact Sees.root (by assumption) | exact Sees.own (by repeat (first | exact List.mem_cons_self | exact List.mem_append_left _ (by assumption) | apply List.mem_cons_of_mem | apply List.mem_append_right)) | exact Sees.root (hR _ (by omega)) | exact Sees.own (RowsIn.mem (by repeat (first | exact RowsIn.here | exact RowsIn.last | apply RowsIn.there | apply RowsIn.thereS)) _ (by omega)) | exact Sees.own (WRowsIn.mem (by repeat (first | exact WRowsIn.here | exact WRowsIn.last | apply WRowsIn.there | apply WRowsIn.thereS)) _ (by omega))) rfl rfl rfl) ?_
                    refine VL.s (.inl rfl) rfl (yc_store rfl sz30_UnI rfl rfl (by repeat (first | exact UpdF.here | apply UpdF.there | apply UpdF.thereS)) (.inr ⟨rfl, rfl⟩) rfl (by first | exact Nat.le_of_ble_eq_true rfl | simp) (by decide) rfl) ?_
                    rintro ⟨⟩
                    refine VL.r (.inl rfl) rfl (by decide) (yr_assign (u := .bool true) rfl rfl) ?_
                    refine VL.nil ?_
                    refine VE.then_wp ?_
                    refine V.ret ?_
                    refine retN rfl (.cons (rv_cellS rfl Try.underlying30 sz30_UnI (by first | exact Sees.root (by assumption) | exact Sees.own (by repeat (first | exact List.mem_cons_self | exact List.mem_append_left _ (by assumption) | apply List.mem_cons_of_mem | apply List.mem_append_right)) | exact Sees.root (hR _ (by omega)) | exact Sees.own (RowsIn.mem (by repeat (first | exact RowsIn.here | exact RowsIn.last | apply RowsIn.there | apply RowsIn.thereS)) _ (by omega)) | exact Sees.own (WRowsIn.mem (by repeat (first | exact WRowsIn.here | exact WRowsIn.last | apply WRowsIn.there | apply WRowsIn.thereS)) _ (by omega))) rfl rfl rfl) (.cons (rv_tmp rfl (by nofun)) .nil)) (by nofun) (fun w1 hw => ?_)
                    first
                      | ((have ho : unOk s = false := unOk_no (by first | exact unPre_no1 (by omega) | exact unPre_no2 (mk_no (by assumption)) | exact unPre_no3 (by omega) | exact unPre_no4 (by omega) | exact unPre_no5 (by assumption))); exact ⟨(none, 0), (unRes_no ho).symm, hw.below, unEnt_no ho, List.pairwise_singleton _ _⟩)
                      | (obtain ⟨hj1, hj2, hj3⟩ := un_join hp9 hl9 (fun k hk => hH.2 k (by rw [hl9]; exact hk))
                         first
                         | (have ho : unOk s = false := hj1 (by assumption)
                            exact ⟨(none, 0), (unRes_no ho).symm, hw.below, unEnt_no ho, List.pairwise_singleton _ _⟩)
                         | (have ha : allF vs (vs.length * 3) = true := by assumption
                            have ho : unOk s = false := hj2 ha hq9
                            exact ⟨(none, 0), (unRes_no ho).symm, hw.below, unEnt_no ho, List.pairwise_singleton _ _⟩)
                         | (have ha : allF vs (vs.length * 3) = true := by assumption
                            obtain ⟨ho, e⟩ := hj3 ha hq9
                            refine ⟨(ar1, cr1), ?_, ?_⟩
                            · rw [unRes_yes ho, ← e]; rfl
                            · rw [unR_yes ho, ← e]; exact (hw.pick (by apply Pick.one; repeat (first | exact Rem.here | apply Rem.there))).out1))

end Go.Proofs.Ytnommdpgmoljcaa


namespace Go.Proofs.Ytnommdpgmoljcaa
open Go.RowKit
set_option linter.unusedVariables false
set_option linter.unusedSimpArgs false
set_option maxRecDepth 20000

theorem zero27_UnS : (Try.prog.info? 27).bind (·.zero) = some (Value.agg #[Value.float .f32 0, Value.float .f32 0, Value.float .f32 0]) := by kernel_rfl
theorem lay27_UnS : Lay Try.prog 27 [Value.float .f32 0, Value.float .f32 0, Value.float .f32 0] [(0, 1), (1, 1), (2, 1)] := Lay.mk' (by kernel_rfl) (by kernel_rfl)
theorem sz27_UnS : (Try.prog.info? 27).map (·.size) = some 3 := by kernel_rfl
theorem sz23_UnS : (Try.prog.info? 23).map (·.size) = some 1 := by kernel_rfl
theorem zero30_UnS : (Try.prog.info? 30).bind (·.zero) = some (Value.agg #[Value.float .f32 0, Value.float .f32 0, Value.float .f32 0, Value.float .f32 0, Value.int .i64 0, Value.int .i64 0, Value.int .i64 0, Value.slice none 0 0]) := by kernel_rfl
theorem mixed_UnS : Try.prog.follows .mixedOrders = true := by kernel_rfl
theorem lay30_UnS : Lay Try.prog 30 [Value.float .f32 0, Value.float .f32 0, Value.float .f32 0, Value.float .f32 0, Value.int .i64 0, Value.int .i64 0, Value.int .i64 0, Value.slice none 0 0] [(0, 3), (3, 1), (4, 1), (5, 1), (6, 1), (7, 1)] := Lay.mk' (by kernel_rfl) (by kernel_rfl)
theorem sz30_UnS : (Try.prog.info? 30).map (·.size) = some 8 := by kernel_rfl
theorem known38_UnS : Known Try.prog 38 := Known.mk' Try.func38 (by kernel_rfl)
theorem elt27_UnS : Elt Try.prog 27 [Value.float .f32 0, Value.float .f32 0, Value.float .f32 0] 12 := Elt.mk' (by kernel_rfl) (by decide)
theorem known90_UnS : Known Try.prog 90 := Known.mk' Try.func90 (by kernel_rfl)
theorem sz2_UnS : (Try.prog.info? 2).map (·.size) = some 1 := by kernel_rfl
theorem fb2_UnS : flatB Try.prog 2 = true := by kernel_rfl
theorem known91_UnS : Known Try.prog 91 := Known.mk' Try.func91 (by kernel_rfl)
theorem known92_UnS : Known Try.prog 92 := Known.mk' Try.func92 (by kernel_rfl)
theorem known82_UnS : Known Try.prog 82 := Known.mk' Try.func82 (by kernel_rfl)
theorem sz28_UnS : (Try.prog.info? 28).map (·.size) = some 1 := by kernel_rfl
theorem fb28_UnS : flatB Try.prog 28 = true := by kernel_rfl
theorem known68_UnS : Known Try.prog 68 := Known.mk' Try.func68 (by kernel_rfl)
theorem known93_UnS : Known Try.prog 93 := Known.mk' Try.func93 (by kernel_rfl)
theorem known54_UnS : Known Try.prog 54 := Known.mk' Try.func54 (by kernel_rfl)
attribute [local irreducible] fop fcmp fconv fneg fabs List.getD sb rd4 rd2 q16 unX unOk unPre unMs allF pkL stb num part3 axis3

theorem c_axis {w : World} {j x : Nat} (hj : j < 3) : Pure Try.prog 92 [.int .i64 (j : Int), .float .f32 x] w (vv (axis3 j x)) := by
  refine Pure.enter Try.func92 rfl Try.ntmps92 (Nat.le_of_ble_eq_true rfl) ?_
  refine V.seq ?_
  refine V.region ?_
  refine VL.new1 (.inl rfl) rfl (by decide) (yn_alloc rfl zero27_UnS rfl) ?_
  intro b4
  refine VL.nil ?_
  refine VE.then_wp ?_
  refine V.seq ?_
  refine V.region ?_
  refine VL.r (.inl rfl) rfl (by decide) (yr_build rfl lay27_UnS rfl .nil (by first | (simp; done) | (simp [vv]; done) | (simp [cn, cn1, cn0]; done)) rfl) ?_
  refine VL.new1 (.inl rfl) rfl (by decide) (yn_alloc rfl zero27_UnS rfl) ?_
  intro b5
  refine VL.s (.inl rfl) rfl (yc_store rfl sz27_UnS rfl rfl (by repeat (first | exact UpdF.here | apply UpdF.there | apply UpdF.thereS)) (.inr ⟨rfl, rfl⟩) rfl (by first | exact Nat.le_of_ble_eq_true rfl | simp) (by decide) rfl) ?_
  rintro ⟨⟩
  refine VL.nil ?_
  refine VE.then_wp ?_
  refine V.seq ?_
  refine V.seq ?_
  refine V.region ?_
  refine VL.r (.inl rfl) rfl (by decide) (yr_move rfl rfl) ?_
  refine VL.nil ?_
  refine VE.then_wp ?_
  refine V.block ?_
  refine V.seq ?_
  refine V.region ?_
  refine VL.r (.inl rfl) rfl (by decide) (yr_icmp rfl (.inl rfl) rfl rfl) ?_
  refine VL.r (.inl rfl) rfl (by decide) (yr_assign rfl rfl) ?_
  refine VL.nil ?_
  refine VE.then_wp ?_
  refine V.cond rfl (fun h1 => ?_) (fun h1 => ?_)
  · skip
    replace h1 := ic_eql h1
    refine V.region ?_
    refine VL.r (.inl rfl) rfl (by decide) (yr_move rfl rfl) ?_
    refine VL.r (.inl rfl) rfl (by decide) (yr_fieldAddr rfl Try.underlying27 rfl rfl sz23_UnS (by decide) rfl) ?_
    refine VL.s (.inl rfl) rfl (yc_store rfl sz23_UnS rfl rfl (by repeat (first | exact UpdF.here | apply UpdF.there | apply UpdF.thereS)) (.inl ⟨rfl, rfl⟩) rfl (by first | exact Nat.le_of_ble_eq_true rfl | simp) (by decide) rfl) ?_
    rintro ⟨⟩
    refine VL.nil ?_
    refine VE.block_normal ?_
    refine VE.then_wp ?_
    refine V.seq ?_
    refine V.region ?_
    refine VL.q (.inl rfl) rfl (by decide) (yq_loadS rfl Try.underlying27 sz27_UnS rfl (by first | exact Sees.root (by assumption) | exact Sees.own (by repeat (first | exact List.mem_cons_self | exact List.mem_append_left _ (by assumption) | apply List.mem_cons_of_mem | apply List.mem_append_right)) | exact Sees.root (hR _ (by omega)) | exact Sees.own (RowsIn.mem (by repeat (first | exact RowsIn.here | exact RowsIn.last | apply RowsIn.there | apply RowsIn.thereS)) _ (by omega)) | exact Sees.own (WRowsIn.mem (by repeat (first | exact WRowsIn.here | exact WRowsIn.last | apply WRowsIn.there | apply WRowsIn.thereS)) _ (by omega))) rfl rfl rfl) ?_
    refine VL.s (.inl rfl) rfl (yc_store rfl sz27_UnS rfl rfl (by repeat (first | exact UpdF.here | apply UpdF.there | apply UpdF.thereS)) (.inr ⟨rfl, rfl⟩) rfl (by first | exact Nat.le_of_ble_eq_true rfl | simp) (by decide) rfl) ?_
    rintro ⟨⟩
    refine VL.nil ?_
    refine VE.then_wp ?_
    refine V.ret ?_
    refine retC rfl (rv_cellS rfl Try.underlying27 sz27_UnS (by first | exact Sees.root (by assumption) | exact Sees.own (by repeat (first | exact List.mem_cons_self | exact List.mem_append_left _ (by assumption) | apply List.mem_cons_of_mem | apply List.mem_append_right)) | exact Sees.root (hR _ (by omega)) | exact Sees.own (RowsIn.mem (by repeat (first | exact RowsIn.here | exact RowsIn.last | apply RowsIn.there | apply RowsIn.thereS)) _ (by omega)) | exact Sees.own (WRowsIn.mem (by repeat (first | exact WRowsIn.here | exact WRowsIn.last | apply WRowsIn.there | apply WRowsIn.thereS)) _ (by omega))) rfl rfl rfl) (by nofun) (fun w1 hw => ?_)
    first
      | (obtain rfl : j = 0 := by omega
         exact ⟨by rw [axis3_0]; rfl, hw.below⟩)
      | (obtain rfl : j = 1 := by omega
         exact ⟨by rw [axis3_1]; rfl, hw.below⟩)
      | (obtain rfl : j = 2 := by omega
         exact ⟨by rw [axis3_2]; rfl, hw.below⟩)
  · skip
    replace h1 := ic_eql' h1
    refine V.seq ?_
    refine V.region ?_
    refine VL.r (.inl rfl) rfl (by decide) (yr_icmp rfl (.inl rfl) rfl rfl) ?_
    refine VL.r (.inl rfl) rfl (by decide) (yr_assign rfl rfl) ?_
    refine VL.nil ?_
    refine VE.then_wp ?_
    refine V.cond rfl (fun h2 => ?_) (fun h2 => ?_)
    · skip
      replace h2 := ic_eql h2
      refine V.region ?_
      refine VL.r (.inl rfl) rfl (by decide) (yr_move rfl rfl) ?_
      refine VL.r (.inl rfl) rfl (by decide) (yr_fieldAddr rfl Try.underlying27 rfl rfl sz23_UnS (by decide) rfl) ?_
      refine VL.s (.inl rfl) rfl (yc_store rfl sz23_UnS rfl rfl (by repeat (first | exact UpdF.here | apply UpdF.there | apply UpdF.thereS)) (.inl ⟨rfl, rfl⟩) rfl (by first | exact Nat.le_of_ble_eq_true rfl | simp) (by decide) rfl) ?_
      rintro ⟨⟩
      refine VL.nil ?_
      refine VE.block_normal ?_
      refine VE.then_wp ?_
      refine V.seq ?_
      refine V.region ?_
      refine VL.q (.inl rfl) rfl (by decide) (yq_loadS rfl Try.underlying27 sz27_UnS rfl (by first | exact Sees.root (by assumption) | exact Sees.own (by repeat (first | exact List.mem_cons_self | exact List.mem_append_left _ (by assumption) | apply List.mem_cons_of_mem | apply List.mem_append_right)) | exact Sees.root (hR _ (by omega)) | exact Sees.own (RowsIn.mem (by repeat (first | exact RowsIn.here | exact RowsIn.last | apply RowsIn.there | apply RowsIn.thereS)) _ (by omega)) | exact Sees.own (WRowsIn.mem (by repeat (first | exact WRowsIn.here | exact WRowsIn.last | apply WRowsIn.there | apply WRowsIn.thereS)) _ (by omega))) rfl rfl rfl) ?_
      refine VL.s (.inl rfl) rfl (yc_store rfl sz27_UnS rfl rfl (by repeat (first | exact UpdF.here | apply UpdF.there | apply UpdF.thereS)) (.inr ⟨rfl, rfl⟩) rfl (by first | exact Nat.le_of_ble_eq_true rfl | simp) (by decide) rfl) ?_
      rintro ⟨⟩
      refine VL.nil ?_
      refine VE.then_wp ?_
      refine V.ret ?_
      refine retC rfl (rv_cellS rfl Try.underlying27 sz27_UnS (by first | exact Sees.root (by assumption) | exact Sees.own (by repeat (first | exact List.mem_cons_self | exact List.mem_append_left _ (by assumption) | apply List.mem_cons_of_mem | apply List.mem_append_right)) | exact Sees.root (hR _ (by omega)) | exact Sees.own (RowsIn.mem (by repeat (first | exact RowsIn.here | exact RowsIn.last | apply RowsIn.there | apply RowsIn.thereS)) _ (by omega)) | exact Sees.own (WRowsIn.mem (by repeat (first | exact WRowsIn.here | exact WRowsIn.last | apply WRowsIn.there | apply WRowsIn.thereS)) _ (by omega))) rfl rfl rfl) (by nofun) (fun w1 hw => ?_)
      first
        | (obtain rfl : j = 0 := by omega
           exact ⟨by rw [axis3_0]; rfl, hw.below⟩)
        | (obtain rfl : j = 1 := by omega
           exact ⟨by rw [axis3_1]; rfl, hw.below⟩)
        | (obtain rfl : j = 2 := by omega
           exact ⟨by rw [axis3_2]; rfl, hw.below⟩)
    · skip
      replace h2 := ic_eql' h2
      refine V.region ?_
      refine VL.r (.inl rfl) rfl (by decide) (yr_move rfl rfl) ?_
      refine VL.r (.inl rfl) rfl (by decide) (yr_fieldAddr rfl Try.underlying27 rfl rfl sz23_UnS (by decide) rfl) ?_
      refine VL.s (.inl rfl) rfl (yc_store rfl sz23_UnS rfl rfl (by repeat (first | exact UpdF.here | apply UpdF.there | apply UpdF.thereS)) (.inl ⟨rfl, rfl⟩) rfl (by first | exact Nat.le_of_ble_eq_true rfl | simp) (by decide) rfl) ?_
      rintro ⟨⟩
      refine VL.nil ?_
      refine VE.block_normal ?_
      refine VE.then_wp ?_
      refine V.seq ?_
      refine V.region ?_
      refine VL.q (.inl rfl) rfl (by decide) (yq_loadS rfl Try.underlying27 sz27_UnS rfl (by first | exact Sees.root (by assumption) | exact Sees.own (by repeat (first | exact List.mem_cons_self | exact List.mem_append_left _ (by assumption) | apply List.mem_cons_of_mem | apply List.mem_append_right)) | exact Sees.root (hR _ (by omega)) | exact Sees.own (RowsIn.mem (by repeat (first | exact RowsIn.here | exact RowsIn.last | apply RowsIn.there | apply RowsIn.thereS)) _ (by omega)) | exact Sees.own (WRowsIn.mem (by repeat (first | exact WRowsIn.here | exact WRowsIn.last | apply WRowsIn.there | apply WRowsIn.thereS)) _ (by omega))) rfl rfl rfl) ?_
      refine VL.s (.inl rfl) rfl (yc_store rfl sz27_UnS rfl rfl (by repeat (first | exact UpdF.here | apply UpdF.there | apply UpdF.thereS)) (.inr ⟨rfl, rfl⟩) rfl (by first | exact Nat.le_of_ble_eq_true rfl | simp) (by decide) rfl) ?_
      rintro ⟨⟩
      refine VL.nil ?_
      refine VE.then_wp ?_
      refine V.ret ?_
      refine retC rfl (rv_cellS rfl Try.underlying27 sz27_UnS (by first | exact Sees.root (by assumption) | exact Sees.own (by repeat (first | exact List.mem_cons_self | exact List.mem_append_left _ (by assumption) | apply List.mem_cons_of_mem | apply List.mem_append_right)) | exact Sees.root (hR _ (by omega)) | exact Sees.own (RowsIn.mem (by repeat (first | exact RowsIn.here | exact RowsIn.last | apply RowsIn.there | apply RowsIn.thereS)) _ (by omega)) | exact Sees.own (WRowsIn.mem (by repeat (first | exact WRowsIn.here | exact WRowsIn.last | apply WRowsIn.there | apply WRowsIn.thereS)) _ (by omega))) rfl rfl rfl) (by nofun) (fun w1 hw => ?_)
      first
        | (obtain rfl : j = 0 := by omega
           exact ⟨by rw [axis3_0]; rfl, hw.below⟩)
        | (obtain rfl : j = 1 := by omega
           exact ⟨by rw [axis3_1]; rfl, hw.below⟩)
        | (obtain rfl : j = 2 := by omega
           exact ⟨by rw [axis3_2]; rfl, hw.below⟩)

theorem c_narN {w : World} {x : Nat} : New Try.prog 91 [.float .f64 x] w (fun v : {v : Nat // Nar x v} => .float .f32 v.1) (fun _ => []) := by
  refine New.enter Try.func91 rfl Try.ntmps91 (Nat.le_of_ble_eq_true rfl) ?_
  refine V.seq ?_
  refine V.region ?_
  refine VL.r (.inl rfl) rfl (by decide) (yr_assign (u := .float .f32 0) rfl rfl) ?_
  refine VL.nil ?_
  refine VE.then_wp ?_
  refine V.seq ?_
  refine V.region ?_
  refine VL.r (.inl rfl) rfl (by decide) (yr_move rfl rfl) ?_
  refine VL.new (.inl rfl) rfl (by decide) (yn_narrow rfl Try.underlying56 Try.underlying23 rfl) ?_
  rintro ⟨v9, hv9⟩
  refine VL.r (.inl rfl) rfl (by decide) (yr_assign rfl rfl) ?_
  refine VL.nil ?_
  refine VE.then_wp ?_
  refine V.ret ?_
  refine ret1 rfl rfl (fun w1 hw => ?_)
  exact ⟨⟨v9, hv9⟩, rfl, hw.below, (fun _ h => by cases h), List.Pairwise.nil⟩

theorem c_l06Unpack {w : World} {s : ByteArray} (hs : s.size ≤ 1048576) : New Try.prog 54 [.string s] w (fun x : {x : MX // x.is s} => .tuple #[x.1.v, .bool (unOk s)]) (fun x => [⟨x.1.ar, vl x.1.vs, x.1.cr * 3, 27⟩]) := by
  refine New.enter Try.func54 rfl Try.ntmps54 (Nat.le_of_ble_eq_true rfl) ?_
  have hb4 := sb_lt s 4
  have hb5 := sb_lt s 5
  have hb6 := sb_lt s 6
  have hm45 : sb s 4 * sb s 5 ≤ 65025 := Nat.le_trans (Nat.mul_le_mul (show sb s 4 ≤ 255 by omega) (show sb s 5 ≤ 255 by omega)) (by decide)
  have hm456 : unN s ≤ 16581375 := Nat.le_trans (Nat.mul_le_mul hm45 (show sb s 6 ≤ 255 by omega)) (by decide)
  refine V.seq ?_
  refine V.region ?_
  refine VL.new1 (.inl rfl) rfl (by decide) (yn_alloc rfl zero30_UnS rfl) ?_
  intro b2
  refine VL.r (.inl rfl) rfl (by decide) (yr_assign (u := .bool false) rfl rfl) ?_
  refine VL.nil ?_
  refine VE.then_wp ?_
  refine V.seq ?_
  refine V.seq ?_
  refine Dr.V.drawR [(0, 5), (1, 5), (2, 5), (3, 5), (4, 5), (5, 5), (6, 5), (7, 5), (8, 5), (9, 5), (10, 5), (11, 5), (12, 5), (13, 5), (14, 5), (15, 5), (16, 5), (17, 5), (18, 5), (19, 5), (20, 5)] [] [] _ mixed_UnS (by kernel_rfl) (fun w hw => hw) ?_
  refine Dr.SW.r rfl (.inl rfl) rfl (by decide) (yr_move rfl rfl) ?_
  refine Dr.SW.r rfl (.inl rfl) rfl (by decide) (yr_lenString rfl Try.underlying9 rfl) ?_
  refine Dr.SW.r rfl (.inl rfl) rfl (by decide) (yr_icmp rfl (.inr (.inr (.inl rfl))) rfl rfl) ?_
  refine Dr.SW.r rfl (.inl rfl) rfl (by decide) (yr_move rfl rfl) ?_
  refine Dr.SW.split Dr.lax_ve 18 _ rfl (fun h1 => ?_) (fun h1 => ?_)
  · skip
    replace h1 := ic_lss h1
    refine Dr.SW.no rfl (by decide) rfl rfl rfl rfl rfl (by decide) ?_
    refine Dr.SW.no rfl (by decide) rfl rfl rfl rfl rfl (by decide) ?_
    refine Dr.SW.no rfl (by decide) rfl rfl rfl rfl rfl (by decide) ?_
    refine Dr.SW.r rfl (.inl rfl) rfl (by decide) (yr_pick_t (u := .bool true) rfl rfl rfl) ?_
    refine Dr.SW.r rfl (.inl rfl) rfl (by decide) (yr_move rfl rfl) ?_
    refine Dr.SW.no rfl (by decide) rfl rfl rfl rfl rfl (by decide) ?_
    refine Dr.SW.no rfl (by decide) rfl rfl rfl rfl rfl (by decide) ?_
    refine Dr.SW.no rfl (by decide) rfl rfl rfl rfl rfl (by decide) ?_
    refine Dr.SW.no rfl (by decide) rfl rfl rfl rfl rfl (by decide) ?_
    refine Dr.SW.no rfl (by decide) rfl rfl rfl rfl rfl (by decide) ?_
    refine Dr.SW.no rfl (by decide) rfl rfl rfl rfl rfl (by decide) ?_
    refine Dr.SW.no rfl (by decide) rfl rfl rfl rfl rfl (by decide) ?_
    refine Dr.SW.no rfl (by decide) rfl rfl rfl rfl rfl (by decide) ?_
    refine Dr.SW.no rfl (by decide) rfl rfl rfl rfl rfl (by decide) ?_
    refine Dr.SW.no rfl (by decide) rfl rfl rfl rfl rfl (by decide) ?_
    refine Dr.SW.no rfl (by decide) rfl rfl rfl rfl rfl (by decide) ?_
    refine Dr.SW.r rfl (.inl rfl) rfl (by decide) (yr_pick_t (u := .bool true) rfl rfl rfl) ?_
    refine Dr.SW.done ?_
    refine Dr.eqO (by simp only [List.append_nil, List.append_assoc, List.cons_append, List.nil_append] <;> rfl) ?_
    refine VE.then_wp ?_
    refine V.condT rfl ?_
    refine V.seq ?_
    refine V.region ?_
    refine VL.r (.inl rfl) rfl (by decide) (yr_build rfl lay30_UnS rfl .nil (by first | (simp; done) | (simp [vv]; done) | (simp [cn, cn1, cn0]; done)) rfl) ?_
    refine VL.s (.inl rfl) rfl (yc_store rfl sz30_UnS rfl rfl (by repeat (first | exact UpdF.here | apply UpdF.there | apply UpdF.thereS)) (.inr ⟨rfl, rfl⟩) rfl (by first | exact Nat.le_of_ble_eq_true rfl | simp) (by decide) rfl) ?_
    rintro ⟨⟩
    refine VL.r (.inl rfl) rfl (by decide) (yr_assign (u := .bool false) rfl rfl) ?_
    refine VL.nil ?_
    refine VE.then_wp ?_
    refine V.ret ?_
    refine VE.then_ret ?_
    refine retN rfl (.cons (rv_cellS rfl Try.underlying30 sz30_UnS (by first | exact Sees.root (by assumption) | exact Sees.own (by repeat (first | exact List.mem_cons_self | exact List.mem_append_left _ (by assumption) | apply List.mem_cons_of_mem | apply List.mem_append_right)) | exact Sees.root (hR _ (by omega)) | exact Sees.own (RowsIn.mem (by repeat (first | exact RowsIn.here | exact RowsIn.last | apply RowsIn.there | apply RowsIn.thereS)) _ (by omega)) | exact Sees.own (WRowsIn.mem (by repeat (first | exact WRowsIn.here | exact WRowsIn.last | apply WRowsIn.there | apply WRowsIn.thereS)) _ (by omega))) rfl rfl rfl) (.cons (rv_tmp rfl (by nofun)) .nil)) (by nofun) (fun w1 hw => ?_)
    first
      | (have ho : unOk s = false := unOk_no (by first | exact unPre_no1 (by omega) | exact unPre_no2 (mk_no (by assumption)) | exact unPre_no4 (by omega) | exact unPre_no5 (by assumption))
         exact ⟨⟨MX.none, MX.none_is ho⟩, (by rw [ho]; rfl), hw.below, (by intro e he; rw [List.mem_singleton.1 he]; exact .inl ⟨rfl, rfl⟩), List.pairwise_singleton _ _⟩)
      | (have hsz : szOk (sb s 4 : Int) (sb s 5 : Int) (sb s 6 : Int) = false := by assumption
         have ho : unOk s = false := unOk_no (unPre_no5 (by unfold unMs; exact (meshOk_no3 hsz).symm))
         exact ⟨⟨MX.none, MX.none_is ho⟩, (by rw [ho]; rfl), hw.below, (by intro e he; rw [List.mem_singleton.1 he]; exact .inl ⟨rfl, rfl⟩), List.pairwise_singleton _ _⟩)
      | (obtain ⟨hj1, hj2, hj3⟩ := un_joinS hp9 hl9 (fun k hk => hH.2 k (by rw [hl9]; exact hk))
         first
         | (have ho : unOk s = false := hj1 (by assumption)
            refine ⟨⟨⟨unF s, unSt s, (sb s 4 : Int), (sb s 5 : Int), (sb s 6 : Int), ar1, cr1, vs⟩, fun h => by rw [ho] at h; cases h⟩, ?_, (hw.pick (by apply Pick.one; repeat (first | exact Rem.here | apply Rem.there))).out1⟩
            show _ = Value.tuple #[MX.v ⟨unF s, unSt s, (sb s 4 : Int), (sb s 5 : Int), (sb s 6 : Int), ar1, cr1, vs⟩, .bool (unOk s)]
            rw [ho]; rfl)
         | (have ha : allF vs (vs.length * 3) = true := by assumption
            rw [if_pos ha]
            cases hq9 : scmp .eql (unPk s vs) s with
            | true =>
              obtain ⟨ho, e⟩ := hj3 ha hq9
              refine ⟨⟨⟨unF s, unSt s, (sb s 4 : Int), (sb s 5 : Int), (sb s 6 : Int), ar1, cr1, vs⟩, fun h => ⟨rfl, rfl, rfl, rfl, rfl, e⟩⟩, ?_, (hw.pick (by apply Pick.one; repeat (first | exact Rem.here | apply Rem.there))).out1⟩
              show _ = Value.tuple #[MX.v ⟨unF s, unSt s, (sb s 4 : Int), (sb s 5 : Int), (sb s 6 : Int), ar1, cr1, vs⟩, .bool (unOk s)]
              rw [ho, ← hq9]; rfl
            | false =>
              have ho := hj2 ha hq9
              refine ⟨⟨⟨unF s, unSt s, (sb s 4 : Int), (sb s 5 : Int), (sb s 6 : Int), ar1, cr1, vs⟩, fun h => by rw [ho] at h; cases h⟩, ?_, (hw.pick (by apply Pick.one; repeat (first | exact Rem.here | apply Rem.there))).out1⟩
              show _ = Value.tuple #[MX.v ⟨unF s, unSt s, (sb s 4 : Int), (sb s 5 : Int), (sb s 6 : Int), ar1, cr1, vs⟩, .bool (unOk s)]
              rw [ho, ← hq9]; rfl))
  · skip
    replace h1 := ic_lss' h1
    refine Dr.SW.r rfl (.inr ⟨_, _, _, rfl, rfl, rfl⟩) rfl (by decide) (yr_move rfl rfl) ?_
    refine Dr.SW.r rfl (.inr ⟨_, _, _, rfl, rfl, rfl⟩) rfl (by decide) (yr_strPart (l := 0) (h := 4) rfl Try.underlying9 rfl OptI.no (OptI.at rfl rfl) (by omega) (by omega)) ?_
    refine Dr.SW.r rfl (.inr ⟨_, _, _, rfl, rfl, rfl⟩) rfl (by decide) (yr_scmp rfl rfl rfl (.inr rfl)) ?_
    refine Dr.SW.r rfl (.inl rfl) rfl (by decide) (yr_pick_f rfl rfl rfl) ?_
    refine Dr.SW.r rfl (.inl rfl) rfl (by decide) (yr_move rfl rfl) ?_
    refine Dr.SW.split Dr.lax_ve 23 _ rfl (fun h3 => ?_) (fun h3 => ?_)
    · skip
      refine Dr.SW.no rfl (by decide) rfl rfl rfl rfl rfl (by decide) ?_
      refine Dr.SW.no rfl (by decide) rfl rfl rfl rfl rfl (by decide) ?_
      refine Dr.SW.no rfl (by decide) rfl rfl rfl rfl rfl (by decide) ?_
      refine Dr.SW.no rfl (by decide) rfl rfl rfl rfl rfl (by decide) ?_
      refine Dr.SW.no rfl (by decide) rfl rfl rfl rfl rfl (by decide) ?_
      refine Dr.SW.no rfl (by decide) rfl rfl rfl rfl rfl (by decide) ?_
      refine Dr.SW.no rfl (by decide) rfl rfl rfl rfl rfl (by decide) ?_
      refine Dr.SW.no rfl (by decide) rfl rfl rfl rfl rfl (by decide) ?_
      refine Dr.SW.no rfl (by decide) rfl rfl rfl rfl rfl (by decide) ?_
      refine Dr.SW.no rfl (by decide) rfl rfl rfl rfl rfl (by decide) ?_
      refine Dr.SW.no rfl (by decide) rfl rfl rfl rfl rfl (by decide) ?_
      refine Dr.SW.r rfl (.inl rfl) rfl (by decide) (yr_pick_t (u := .bool true) rfl rfl rfl) ?_
      refine Dr.SW.done ?_
      refine Dr.eqO (by simp only [List.append_nil, List.append_assoc, List.cons_append, List.nil_append] <;> rfl) ?_
      refine VE.then_wp ?_
      refine V.condT rfl ?_
      refine V.seq ?_
      refine V.region ?_
      refine VL.r (.inl rfl) rfl (by decide) (yr_build rfl lay30_UnS rfl .nil (by first | (simp; done) | (simp [vv]; done) | (simp [cn, cn1, cn0]; done)) rfl) ?_
      refine VL.s (.inl rfl) rfl (yc_store rfl sz30_UnS rfl rfl (by repeat (first | exact UpdF.here | apply UpdF.there | apply UpdF.thereS)) (.inr ⟨rfl, rfl⟩) rfl (by first | exact Nat.le_of_ble_eq_true rfl | simp) (by decide) rfl) ?_
      rintro ⟨⟩
      refine VL.r (.inl rfl) rfl (by decide) (yr_assign (u := .bool false) rfl rfl) ?_
      refine VL.nil ?_
      refine VE.then_wp ?_
      refine V.ret ?_
      refine VE.then_ret ?_
      refine retN rfl (.cons (rv_cellS rfl Try.underlying30 sz30_UnS (by first | exact Sees.root (by assumption) | exact Sees.own (by repeat (first | exact List.mem_cons_self | exact List.mem_append_left _ (by assumption) | apply List.mem_cons_of_mem | apply List.mem_append_right)) | exact Sees.root (hR _ (by omega)) | exact Sees.own (RowsIn.mem (by repeat (first | exact RowsIn.here | exact RowsIn.last | apply RowsIn.there | apply RowsIn.thereS)) _ (by omega)) | exact Sees.own (WRowsIn.mem (by repeat (first | exact WRowsIn.here | exact WRowsIn.last | apply WRowsIn.there | apply WRowsIn.thereS)) _ (by omega))) rfl rfl rfl) (.cons (rv_tmp rfl (by nofun)) .nil)) (by nofun) (fun w1 hw => ?_)
      first
        | (have ho : unOk s = false := unOk_no (by first | exact unPre_no1 (by omega) | exact unPre_no2 (mk_no (by assumption)) | exact unPre_no4 (by omega) | exact unPre_no5 (by assumption))
           exact ⟨⟨MX.none, MX.none_is ho⟩, (by rw [ho]; rfl), hw.below, (by intro e he; rw [List.mem_singleton.1 he]; exact .inl ⟨rfl, rfl⟩), List.pairwise_singleton _ _⟩)
        | (have hsz : szOk (sb s 4 : Int) (sb s 5 : Int) (sb s 6 : Int) = false := by assumption
           have ho : unOk s = false := unOk_no (unPre_no5 (by unfold unMs; exact (meshOk_no3 hsz).symm))
           exact ⟨⟨MX.none, MX.none_is ho⟩, (by rw [ho]; rfl), hw.below, (by intro e he; rw [List.mem_singleton.1 he]; exact .inl ⟨rfl, rfl⟩), List.pairwise_singleton _ _⟩)
        | (obtain ⟨hj1, hj2, hj3⟩ := un_joinS hp9 hl9 (fun k hk => hH.2 k (by rw [hl9]; exact hk))
           first
           | (have ho : unOk s = false := hj1 (by assumption)
              refine ⟨⟨⟨unF s, unSt s, (sb s 4 : Int), (sb s 5 : Int), (sb s 6 : Int), ar1, cr1, vs⟩, fun h => by rw [ho] at h; cases h⟩, ?_, (hw.pick (by apply Pick.one; repeat (first | exact Rem.here | apply Rem.there))).out1⟩
              show _ = Value.tuple #[MX.v ⟨unF s, unSt s, (sb s 4 : Int), (sb s 5 : Int), (sb s 6 : Int), ar1, cr1, vs⟩, .bool (unOk s)]
              rw [ho]; rfl)
           | (have ha : allF vs (vs.length * 3) = true := by assumption
              rw [if_pos ha]
              cases hq9 : scmp .eql (unPk s vs) s with
              | true =>
                obtain ⟨ho, e⟩ := hj3 ha hq9
                refine ⟨⟨⟨unF s, unSt s, (sb s 4 : Int), (sb s 5 : Int), (sb s 6 : Int), ar1, cr1, vs⟩, fun h => ⟨rfl, rfl, rfl, rfl, rfl, e⟩⟩, ?_, (hw.pick (by apply Pick.one; repeat (first | exact Rem.here | apply Rem.there))).out1⟩
                show _ = Value.tuple #[MX.v ⟨unF s, unSt s, (sb s 4 : Int), (sb s 5 : Int), (sb s 6 : Int), ar1, cr1, vs⟩, .bool (unOk s)]
                rw [ho, ← hq9]; rfl
              | false =>
                have ho := hj2 ha hq9
                refine ⟨⟨⟨unF s, unSt s, (sb s 4 : Int), (sb s 5 : Int), (sb s 6 : Int), ar1, cr1, vs⟩, fun h => by rw [ho] at h; cases h⟩, ?_, (hw.pick (by apply Pick.one; repeat (first | exact Rem.here | apply Rem.there))).out1⟩
                show _ = Value.tuple #[MX.v ⟨unF s, unSt s, (sb s 4 : Int), (sb s 5 : Int), (sb s 6 : Int), ar1, cr1, vs⟩, .bool (unOk s)]
                rw [ho, ← hq9]; rfl))
    · skip
      refine Dr.SW.r rfl (.inr ⟨_, _, _, rfl, rfl, rfl⟩) rfl (by decide) (yr_move rfl rfl) ?_
      refine Dr.SW.r rfl (.inr ⟨_, _, _, rfl, rfl, rfl⟩) rfl (by decide) (yr_strByte (i := 4) rfl Try.underlying9 rfl rfl (by first | rfl | omega | (push_cast; rfl) | (push_cast; omega)) (by omega)) ?_
      refine Dr.SW.r rfl (.inr ⟨_, _, _, rfl, rfl, rfl⟩) rfl (by decide) (yr_intConv (r := (sb s 4 : Int)) rfl Try.underlying5 Try.underlying2 rfl (i64_nat (by omega))) ?_
      refine Dr.SW.r rfl (.inr ⟨_, _, _, rfl, rfl, rfl⟩) rfl (by decide) (yr_move rfl rfl) ?_
      refine Dr.SW.r rfl (.inr ⟨_, _, _, rfl, rfl, rfl⟩) rfl (by decide) (yr_strByte (i := 5) rfl Try.underlying9 rfl rfl (by first | rfl | omega | (push_cast; rfl) | (push_cast; omega)) (by omega)) ?_
      refine Dr.SW.r rfl (.inr ⟨_, _, _, rfl, rfl, rfl⟩) rfl (by decide) (yr_intConv (r := (sb s 5 : Int)) rfl Try.underlying5 Try.underlying2 rfl (i64_nat (by omega))) ?_
      refine Dr.SW.r rfl (.inr ⟨_, _, _, rfl, rfl, rfl⟩) rfl (by decide) (yr_move rfl rfl) ?_
      refine Dr.SW.r rfl (.inr ⟨_, _, _, rfl, rfl, rfl⟩) rfl (by decide) (yr_strByte (i := 6) rfl Try.underlying9 rfl rfl (by first | rfl | omega | (push_cast; rfl) | (push_cast; omega)) (by omega)) ?_
      refine Dr.SW.r rfl (.inr ⟨_, _, _, rfl, rfl, rfl⟩) rfl (by decide) (yr_intConv (r := (sb s 6 : Int)) rfl Try.underlying5 Try.underlying2 rfl (i64_nat (by omega))) ?_
      refine Dr.SW.p rfl (.inr ⟨_, _, _, rfl, rfl, rfl⟩) rfl (by decide) (yq_callf rfl known38_UnS (.cons rfl (.cons rfl (.cons rfl .nil))) (fun w hw => c_l06Sizes)) ?_
      refine Dr.SW.r rfl (.inr ⟨_, _, _, rfl, rfl, rfl⟩) rfl (by decide) (yr_not rfl rfl) ?_
      refine Dr.SW.r rfl (.inl rfl) rfl (by decide) (yr_pick_f rfl rfl rfl) ?_
      refine Dr.SW.done ?_
      refine Dr.eqO (by simp only [List.append_nil, List.append_assoc, List.cons_append, List.nil_append] <;> rfl) ?_
      refine VE.then_wp ?_
      refine V.cond rfl (fun h5 => ?_) (fun h5 => ?_)
      · skip
        replace h5 := bnot_t h5
        refine V.seq ?_
        refine V.region ?_
        refine VL.r (.inl rfl) rfl (by decide) (yr_build rfl lay30_UnS rfl .nil (by first | (simp; done) | (simp [vv]; done) | (simp [cn, cn1, cn0]; done)) rfl) ?_
        refine VL.s (.inl rfl) rfl (yc_store rfl sz30_UnS rfl rfl (by repeat (first | exact UpdF.here | apply UpdF.there | apply UpdF.thereS)) (.inr ⟨rfl, rfl⟩) rfl (by first | exact Nat.le_of_ble_eq_true rfl | simp) (by decide) rfl) ?_
        rintro ⟨⟩
        refine VL.r (.inl rfl) rfl (by decide) (yr_assign (u := .bool false) rfl rfl) ?_
        refine VL.nil ?_
        refine VE.then_wp ?_
        refine V.ret ?_
        refine VE.then_ret ?_
        refine retN rfl (.cons (rv_cellS rfl Try.underlying30 sz30_UnS (by first | exact Sees.root (by assumption) | exact Sees.own (by repeat (first | exact List.mem_cons_self | exact List.mem_append_left _ (by assumption) | apply List.mem_cons_of_mem | apply List.mem_append_right)) | exact Sees.root (hR _ (by omega)) | exact Sees.own (RowsIn.mem (by repeat (first | exact RowsIn.here | exact RowsIn.last | apply RowsIn.there | apply RowsIn.thereS)) _ (by omega)) | exact Sees.own (WRowsIn.mem (by repeat (first | exact WRowsIn.here | exact WRowsIn.last | apply WRowsIn.there | apply WRowsIn.thereS)) _ (by omega))) rfl rfl rfl) (.cons (rv_tmp rfl (by nofun)) .nil)) (by nofun) (fun w1 hw => ?_)
        first
          | (have ho : unOk s = false := unOk_no (by first | exact unPre_no1 (by omega) | exact unPre_no2 (mk_no (by assumption)) | exact unPre_no4 (by omega) | exact unPre_no5 (by assumption))
             exact ⟨⟨MX.none, MX.none_is ho⟩, (by rw [ho]; rfl), hw.below, (by intro e he; rw [List.mem_singleton.1 he]; exact .inl ⟨rfl, rfl⟩), List.pairwise_singleton _ _⟩)
          | (have hsz : szOk (sb s 4 : Int) (sb s 5 : Int) (sb s 6 : Int) = false := by assumption
             have ho : unOk s = false := unOk_no (unPre_no5 (by unfold unMs; exact (meshOk_no3 hsz).symm))
             exact ⟨⟨MX.none, MX.none_is ho⟩, (by rw [ho]; rfl), hw.below, (by intro e he; rw [List.mem_singleton.1 he]; exact .inl ⟨rfl, rfl⟩), List.pairwise_singleton _ _⟩)
          | (obtain ⟨hj1, hj2, hj3⟩ := un_joinS hp9 hl9 (fun k hk => hH.2 k (by rw [hl9]; exact hk))
             first
             | (have ho : unOk s = false := hj1 (by assumption)
                refine ⟨⟨⟨unF s, unSt s, (sb s 4 : Int), (sb s 5 : Int), (sb s 6 : Int), ar1, cr1, vs⟩, fun h => by rw [ho] at h; cases h⟩, ?_, (hw.pick (by apply Pick.one; repeat (first | exact Rem.here | apply Rem.there))).out1⟩
                show _ = Value.tuple #[MX.v ⟨unF s, unSt s, (sb s 4 : Int), (sb s 5 : Int), (sb s 6 : Int), ar1, cr1, vs⟩, .bool (unOk s)]
                rw [ho]; rfl)
             | (have ha : allF vs (vs.length * 3) = true := by assumption
                rw [if_pos ha]
                cases hq9 : scmp .eql (unPk s vs) s with
                | true =>
                  obtain ⟨ho, e⟩ := hj3 ha hq9
                  refine ⟨⟨⟨unF s, unSt s, (sb s 4 : Int), (sb s 5 : Int), (sb s 6 : Int), ar1, cr1, vs⟩, fun h => ⟨rfl, rfl, rfl, rfl, rfl, e⟩⟩, ?_, (hw.pick (by apply Pick.one; repeat (first | exact Rem.here | apply Rem.there))).out1⟩
                  show _ = Value.tuple #[MX.v ⟨unF s, unSt s, (sb s 4 : Int), (sb s 5 : Int), (sb s 6 : Int), ar1, cr1, vs⟩, .bool (unOk s)]
                  rw [ho, ← hq9]; rfl
                | false =>
                  have ho := hj2 ha hq9
                  refine ⟨⟨⟨unF s, unSt s, (sb s 4 : Int), (sb s 5 : Int), (sb s 6 : Int), ar1, cr1, vs⟩, fun h => by rw [ho] at h; cases h⟩, ?_, (hw.pick (by apply Pick.one; repeat (first | exact Rem.here | apply Rem.there))).out1⟩
                  show _ = Value.tuple #[MX.v ⟨unF s, unSt s, (sb s 4 : Int), (sb s 5 : Int), (sb s 6 : Int), ar1, cr1, vs⟩, .bool (unOk s)]
                  rw [ho, ← hq9]; rfl))
      · skip
        replace h5 := bnot_f h5
        have hmk := mk_yes (s := s) (by assumption)
        have hsz : szOk (sb s 4 : Int) (sb s 5 : Int) (sb s 6 : Int) = true := by assumption
        have hN : unN s ≤ 216 := by
          obtain ⟨W, H, D, e1, e2, e3, q1, q2, q3, q4, q5, q6, hbd⟩ := szOk_is hsz
          have e1' := Int.ofNat.inj e1
          have e2' := Int.ofNat.inj e2
          have e3' := Int.ofNat.inj e3
          subst e1'; subst e2'; subst e3'
          exact hbd
        refine V.skip ?_
        refine VE.then_wp ?_
        refine V.seq ?_
        refine V.draw [(0, 0), (1, 0), (2, 0), (3, 0), (4, 0), (5, 0), (6, 0), (7, 0), (8, 0), (9, 1), (10, 0), (11, 2), (12, 3)] mixed_UnS (by kernel_rfl) (by intro j o hj ho; simp only [List.mem_cons, List.mem_nil_iff, Prod.mk.injEq, or_false, false_or, reduceCtorEq, and_false, and_true, Nat.reduceEqDiff] at hj; subst hj; cases ho; exact ⟨rfl, ⟨_, _, rfl, by first | exact zero30_UnS⟩, _, rfl, by decide⟩) ?_
        refine SW.r rfl (.inl rfl) rfl (by decide) (yr_move rfl rfl) ?_
        refine SW.r rfl (.inl rfl) rfl (by decide) (yr_strByte (i := 4) rfl Try.underlying9 rfl rfl (by first | rfl | omega | (push_cast; rfl) | (push_cast; omega)) (by omega)) ?_
        refine SW.r rfl (.inl rfl) rfl (by decide) (yr_intConv (r := (sb s 4 : Int)) rfl Try.underlying5 Try.underlying2 rfl (i64_nat (by omega))) ?_
        refine SW.r rfl (.inl rfl) rfl (by decide) (yr_move rfl rfl) ?_
        refine SW.r rfl (.inl rfl) rfl (by decide) (yr_strByte (i := 5) rfl Try.underlying9 rfl rfl (by first | rfl | omega | (push_cast; rfl) | (push_cast; omega)) (by omega)) ?_
        refine SW.r rfl (.inl rfl) rfl (by decide) (yr_intConv (r := (sb s 5 : Int)) rfl Try.underlying5 Try.underlying2 rfl (i64_nat (by omega))) ?_
        refine SW.r rfl (.inl rfl) rfl (by decide) (yr_move rfl rfl) ?_
        refine SW.r rfl (.inl rfl) rfl (by decide) (yr_strByte (i := 6) rfl Try.underlying9 rfl rfl (by first | rfl | omega | (push_cast; rfl) | (push_cast; omega)) (by omega)) ?_
        refine SW.r rfl (.inl rfl) rfl (by decide) (yr_intConv (r := (sb s 6 : Int)) rfl Try.underlying5 Try.underlying2 rfl (i64_nat (by omega))) ?_
        refine SW.new1 rfl (.inl rfl) rfl (by decide) (yn_buildSlice rfl Try.underlying28 elt27_UnS rfl (by decide) .nil (by simp) rfl rfl) ?_
        intro b46
        refine SW.r rfl (.inl rfl) rfl (by decide) (yr_build rfl lay30_UnS rfl (.cons rfl (.cons rfl (.cons rfl (.cons rfl .nil)))) (by first | (simp; done) | (simp [vv]; done) | (simp [cn, cn1, cn0]; done)) rfl) ?_
        refine SW.a rfl rfl rfl zero30_UnS rfl rfl (by decide) ?_
        intro b4
        refine SW.s rfl (.inl rfl) rfl (yc_store rfl sz30_UnS rfl rfl (by repeat (first | exact UpdF.here | apply UpdF.there | apply UpdF.thereS)) (.inr ⟨rfl, rfl⟩) rfl (by first | exact Nat.le_of_ble_eq_true rfl | simp) (by decide) rfl) ?_
        rintro ⟨⟩
        refine SW.done ?_
        refine VE.then_wp ?_
        refine V.seq ?_
        refine V.region ?_
        refine VL.r (.inl rfl) rfl (by decide) (yr_move rfl rfl) ?_
        refine VL.q (.inl rfl) rfl (by decide) (yq_callf rfl known90_UnS (.cons rfl (.cons rfl .nil)) (fun w hw => (c_l06Num (p := 7) (by omega) (by omega)))) ?_
        refine VL.r (.inl rfl) rfl (by decide) (yr_move rfl rfl) ?_
        refine VL.q (.inl rfl) rfl (by decide) (yq_callf rfl known90_UnS (.cons rfl (.cons rfl .nil)) (fun w hw => (c_l06Num (p := 11) (by omega) (by omega)))) ?_
        refine VL.r (.inl rfl) rfl (by decide) (yr_move rfl rfl) ?_
        refine VL.q (.inl rfl) rfl (by decide) (yq_callf rfl known90_UnS (.cons rfl (.cons rfl .nil)) (fun w hw => (c_l06Num (p := 15) (by omega) (by omega)))) ?_
        refine VL.r (.inl rfl) rfl (by decide) (yr_build rfl lay27_UnS rfl (.cons rfl (.cons rfl (.cons rfl .nil))) (by first | (simp; done) | (simp [vv]; done) | (simp [cn, cn1, cn0]; done)) rfl) ?_
        refine VL.r (.inl rfl) rfl (by decide) (yr_fieldAddr rfl Try.underlying30 rfl rfl sz27_UnS (by decide) rfl) ?_
        refine VL.s (.inl rfl) rfl (yc_store rfl sz27_UnS rfl rfl (by repeat (first | exact UpdF.here | apply UpdF.there | apply UpdF.thereS)) (.inr ⟨rfl, rfl⟩) rfl (by first | exact Nat.le_of_ble_eq_true rfl | simp) (by decide) rfl) ?_
        rintro ⟨⟩
        refine VL.nil ?_
        refine VE.then_wp ?_
        refine V.seq ?_
        refine V.region ?_
        refine VL.r (.inl rfl) rfl (by decide) (yr_move rfl rfl) ?_
        refine VL.q (.inl rfl) rfl (by decide) (yq_callf rfl known90_UnS (.cons rfl (.cons rfl .nil)) (fun w hw => (c_l06Num (p := 19) (by omega) (by omega)))) ?_
        refine VL.r (.inl rfl) rfl (by decide) (yr_fieldAddr rfl Try.underlying30 rfl rfl sz23_UnS (by decide) rfl) ?_
        refine VL.s (.inl rfl) rfl (yc_store rfl sz23_UnS rfl rfl (by repeat (first | exact UpdF.here | apply UpdF.there | apply UpdF.thereS)) (.inl ⟨rfl, rfl⟩) rfl (by first | exact Nat.le_of_ble_eq_true rfl | simp) (by decide) rfl) ?_
        rintro ⟨⟩
        refine VL.nil ?_
        refine VE.then_wp ?_
        refine V.seq ?_
        refine V.region ?_
        refine VL.r (.inl rfl) rfl (by decide) (yr_move rfl rfl) ?_
        refine VL.q (.inl rfl) rfl (by decide) (yq_callf rfl known90_UnS (.cons rfl (.cons rfl .nil)) (fun w hw => (c_l06Num (p := 23) (by omega) (by omega)))) ?_
        refine VL.r (.inl rfl) rfl (by decide) (yr_assign rfl rfl) ?_
        refine VL.nil ?_
        refine VE.then_wp ?_
        refine V.seq ?_
        refine V.region ?_
        refine VL.r (.inl rfl) rfl (by decide) (yr_fieldAddr rfl Try.underlying30 rfl rfl sz2_UnS (by decide) rfl) ?_
        refine VL.q (.inl rfl) rfl (by decide) (yq_load rfl fb2_UnS rfl (by first | exact Sees.root (by assumption) | exact Sees.own (by repeat (first | exact List.mem_cons_self | exact List.mem_append_left _ (by assumption) | apply List.mem_cons_of_mem | apply List.mem_append_right)) | exact Sees.root (hR _ (by omega)) | exact Sees.own (RowsIn.mem (by repeat (first | exact RowsIn.here | exact RowsIn.last | apply RowsIn.there | apply RowsIn.thereS)) _ (by omega)) | exact Sees.own (WRowsIn.mem (by repeat (first | exact WRowsIn.here | exact WRowsIn.last | apply WRowsIn.there | apply WRowsIn.thereS)) _ (by omega))) rfl) ?_
        refine VL.r (.inl rfl) rfl (by decide) (yr_fieldAddr rfl Try.underlying30 rfl rfl sz2_UnS (by decide) rfl) ?_
        refine VL.q (.inl rfl) rfl (by decide) (yq_load rfl fb2_UnS rfl (by first | exact Sees.root (by assumption) | exact Sees.own (by repeat (first | exact List.mem_cons_self | exact List.mem_append_left _ (by assumption) | apply List.mem_cons_of_mem | apply List.mem_append_right)) | exact Sees.root (hR _ (by omega)) | exact Sees.own (RowsIn.mem (by repeat (first | exact RowsIn.here | exact RowsIn.last | apply RowsIn.there | apply RowsIn.thereS)) _ (by omega)) | exact Sees.own (WRowsIn.mem (by repeat (first | exact WRowsIn.here | exact WRowsIn.last | apply WRowsIn.there | apply WRowsIn.thereS)) _ (by omega))) rfl) ?_
        refine VL.r (.inl rfl) rfl (by decide) (yr_mulN (sb s 4) (sb s 5) rfl rfl rfl (by omega) (by omega) (Nat.le_trans (mul_small (by omega) (by omega)) (by decide))) ?_
        refine VL.r (.inl rfl) rfl (by decide) (yr_fieldAddr rfl Try.underlying30 rfl rfl sz2_UnS (by decide) rfl) ?_
        refine VL.q (.inl rfl) rfl (by decide) (yq_load rfl fb2_UnS rfl (by first | exact Sees.root (by assumption) | exact Sees.own (by repeat (first | exact List.mem_cons_self | exact List.mem_append_left _ (by assumption) | apply List.mem_cons_of_mem | apply List.mem_append_right)) | exact Sees.root (hR _ (by omega)) | exact Sees.own (RowsIn.mem (by repeat (first | exact RowsIn.here | exact RowsIn.last | apply RowsIn.there | apply RowsIn.thereS)) _ (by omega)) | exact Sees.own (WRowsIn.mem (by repeat (first | exact WRowsIn.here | exact WRowsIn.last | apply WRowsIn.there | apply WRowsIn.thereS)) _ (by omega))) rfl) ?_
        refine VL.r (.inl rfl) rfl (by decide) (show YR _ _ _ (.int .i64 ((unN s : Nat) : Int)) from yr_mulN (sb s 4 * sb s 5) (sb s 6) rfl rfl rfl rfl rfl (Nat.le_trans (mul_small (by omega) (by omega)) (by decide))) ?_
        refine VL.r (.inl rfl) rfl (by decide) (yr_assign rfl rfl) ?_
        refine VL.nil ?_
        refine VE.then_wp ?_
        refine V.seq ?_
        refine V.seq ?_
        refine V.region ?_
        refine VL.r (.inl rfl) rfl (by decide) (yr_move rfl rfl) ?_
        refine VL.r (.inl rfl) rfl (by decide) (yr_lenString rfl Try.underlying9 rfl) ?_
        refine VL.r (.inl rfl) rfl (by decide) (yr_move rfl rfl) ?_
        refine VL.r (.inl rfl) rfl (by decide) (yr_mulN 6 (unN s) rfl rfl rfl (by omega) (by omega) (Nat.le_trans (mul_small (by omega) (by omega)) (by decide))) ?_
        refine VL.r (.inl rfl) rfl (by decide) (yr_int rfl rfl rfl (.inl ⟨rfl, wrap_in (by omega)⟩)) ?_
        refine VL.r (.inl rfl) rfl (by decide) (yr_icmp rfl (.inr (.inl rfl)) rfl rfl) ?_
        refine VL.nil ?_
        refine VE.then_wp ?_
        refine V.cond rfl (fun h6 => ?_) (fun h6 => ?_)
        · skip
          replace h6 := ic_neq h6
          refine V.seq ?_
          refine V.region ?_
          refine VL.r (.inl rfl) rfl (by decide) (yr_build rfl lay30_UnS rfl .nil (by first | (simp; done) | (simp [vv]; done) | (simp [cn, cn1, cn0]; done)) rfl) ?_
          refine VL.s (.inl rfl) rfl (yc_store rfl sz30_UnS rfl rfl (by repeat (first | exact UpdF.here | apply UpdF.there | apply UpdF.thereS)) (.inr ⟨rfl, rfl⟩) rfl (by first | exact Nat.le_of_ble_eq_true rfl | simp) (by decide) rfl) ?_
          rintro ⟨⟩
          refine VL.r (.inl rfl) rfl (by decide) (yr_assign (u := .bool false) rfl rfl) ?_
          refine VL.nil ?_
          refine VE.then_wp ?_
          refine V.ret ?_
          refine VE.then_ret ?_
          refine retN rfl (.cons (rv_cellS rfl Try.underlying30 sz30_UnS (by first | exact Sees.root (by assumption) | exact Sees.own (by repeat (first | exact List.mem_cons_self | exact List.mem_append_left _ (by assumption) | apply List.mem_cons_of_mem | apply List.mem_append_right)) | exact Sees.root (hR _ (by omega)) | exact Sees.own (RowsIn.mem (by repeat (first | exact RowsIn.here | exact RowsIn.last | apply RowsIn.there | apply RowsIn.thereS)) _ (by omega)) | exact Sees.own (WRowsIn.mem (by repeat (first | exact WRowsIn.here | exact WRowsIn.last | apply WRowsIn.there | apply WRowsIn.thereS)) _ (by omega))) rfl rfl rfl) (.cons (rv_tmp rfl (by nofun)) .nil)) (by nofun) (fun w1 hw => ?_)
          first
            | (have ho : unOk s = false := unOk_no (by first | exact unPre_no1 (by omega) | exact unPre_no2 (mk_no (by assumption)) | exact unPre_no4 (by omega) | exact unPre_no5 (by assumption))
               exact ⟨⟨MX.none, MX.none_is ho⟩, (by rw [ho]; rfl), hw.below, (by intro e he; rw [List.mem_singleton.1 he]; exact .inl ⟨rfl, rfl⟩), List.pairwise_singleton _ _⟩)
            | (have hsz : szOk (sb s 4 : Int) (sb s 5 : Int) (sb s 6 : Int) = false := by assumption
               have ho : unOk s = false := unOk_no (unPre_no5 (by unfold unMs; exact (meshOk_no3 hsz).symm))
               exact ⟨⟨MX.none, MX.none_is ho⟩, (by rw [ho]; rfl), hw.below, (by intro e he; rw [List.mem_singleton.1 he]; exact .inl ⟨rfl, rfl⟩), List.pairwise_singleton _ _⟩)
            | (obtain ⟨hj1, hj2, hj3⟩ := un_joinS hp9 hl9 (fun k hk => hH.2 k (by rw [hl9]; exact hk))
               first
               | (have ho : unOk s = false := hj1 (by assumption)
                  refine ⟨⟨⟨unF s, unSt s, (sb s 4 : Int), (sb s 5 : Int), (sb s 6 : Int), ar1, cr1, vs⟩, fun h => by rw [ho] at h; cases h⟩, ?_, (hw.pick (by apply Pick.one; repeat (first | exact Rem.here | apply Rem.there))).out1⟩
                  show _ = Value.tuple #[MX.v ⟨unF s, unSt s, (sb s 4 : Int), (sb s 5 : Int), (sb s 6 : Int), ar1, cr1, vs⟩, .bool (unOk s)]
                  rw [ho]; rfl)
               | (have ha : allF vs (vs.length * 3) = true := by assumption
                  rw [if_pos ha]
                  cases hq9 : scmp .eql (unPk s vs) s with
                  | true =>
                    obtain ⟨ho, e⟩ := hj3 ha hq9
                    refine ⟨⟨⟨unF s, unSt s, (sb s 4 : Int), (sb s 5 : Int), (sb s 6 : Int), ar1, cr1, vs⟩, fun h => ⟨rfl, rfl, rfl, rfl, rfl, e⟩⟩, ?_, (hw.pick (by apply Pick.one; repeat (first | exact Rem.here | apply Rem.there))).out1⟩
                    show _ = Value.tuple #[MX.v ⟨unF s, unSt s, (sb s 4 : Int), (sb s 5 : Int), (sb s 6 : Int), ar1, cr1, vs⟩, .bool (unOk s)]
                    rw [ho, ← hq9]; rfl
                  | false =>
                    have ho := hj2 ha hq9
                    refine ⟨⟨⟨unF s, unSt s, (sb s 4 : Int), (sb s 5 : Int), (sb s 6 : Int), ar1, cr1, vs⟩, fun h => by rw [ho] at h; cases h⟩, ?_, (hw.pick (by apply Pick.one; repeat (first | exact Rem.here | apply Rem.there))).out1⟩
                    show _ = Value.tuple #[MX.v ⟨unF s, unSt s, (sb s 4 : Int), (sb s 5 : Int), (sb s 6 : Int), ar1, cr1, vs⟩, .bool (unOk s)]
                    rw [ho, ← hq9]; rfl))
        · skip
          replace h6 := ic_neq' h6
          refine V.skip ?_
          refine VE.then_wp ?_
          refine V.seq ?_
          refine V.seq ?_
          refine V.region ?_
          refine VL.r (.inl rfl) rfl (by decide) (yr_assign (u := .int .i64 0) rfl rfl) ?_
          refine VL.nil ?_
          refine VE.then_wp ?_
          refine V.block ?_
          refine V.loopc (G := (List V3) × (Option Addr) × Nat) [(0, _), (2, _), (4, _), (5, _), (6, _)] (fun ⟨vs, ar1, cr1⟩ => vs.length ≤ unN s ∧ unHS s vs) (fun ⟨vs, ar1, cr1⟩ => [⟨some ⟨b4, 0, none⟩, [.float .f32 (cb .f32 (rd4 s 7)), .float .f32 (cb .f32 (rd4 s 11)), .float .f32 (cb .f32 (rd4 s 15)), .float .f32 (cb .f32 (rd4 s 19)), .int .i64 (sb s 4 : Int), .int .i64 (sb s 5 : Int), .int .i64 (sb s 6 : Int), .slice ar1 vs.length cr1], 8, 30⟩, ⟨ar1, vl vs, cr1 * 3, 27⟩, ⟨some ⟨b2, 0, none⟩, [.float .f32 0, .float .f32 0, .float .f32 0, .float .f32 0, .int .i64 0, .int .i64 0, .int .i64 0, .slice none 0 0], 8, 30⟩]) (fun ⟨vs, ar1, cr1⟩ => [(7, .int .i64 (vs.length : Int))]) (fun ⟨vs, ar1, cr1⟩ => unN s - vs.length) ([], some ⟨b46, 0, none⟩, 0) (.cons rfl (.cons rfl (.cons rfl (.cons rfl (.cons rfl .nil))))) (.cons rfl .nil) ?_ ?_ ?_
          · exact (fun w hw => hw.pick (by apply Pick.p3; all_goals (repeat (first | exact Rem.here | apply Rem.there))))
          · exact (by exact ⟨Nat.zero_le _, unHS_0⟩)
          rintro ⟨vs, ar1, cr1⟩ ⟨hl, hH⟩
          show V _ _ _ [⟨some ⟨b4, 0, none⟩, [.float .f32 (cb .f32 (rd4 s 7)), .float .f32 (cb .f32 (rd4 s 11)), .float .f32 (cb .f32 (rd4 s 15)), .float .f32 (cb .f32 (rd4 s 19)), .int .i64 (sb s 4 : Int), .int .i64 (sb s 5 : Int), .int .i64 (sb s 6 : Int), .slice ar1 vs.length cr1], 8, 30⟩, ⟨ar1, vl vs, cr1 * 3, 27⟩, ⟨some ⟨b2, 0, none⟩, [.float .f32 0, .float .f32 0, .float .f32 0, .float .f32 0, .int .i64 0, .int .i64 0, .int .i64 0, .slice none 0 0], 8, 30⟩] ([(7, .int .i64 (vs.length : Int))] ++ [(0, _), (2, _), (4, _), (5, _), (6, _)]) _ _
          refine V.seq ?_
          refine V.seq ?_
          refine V.region ?_
          refine VL.r (.inl rfl) rfl (by decide) (yr_move rfl rfl) ?_
          refine VL.r (.inl rfl) rfl (by decide) (yr_move rfl rfl) ?_
          refine VL.r (.inl rfl) rfl (by decide) (yr_icmp rfl (.inr (.inr (.inl rfl))) rfl rfl) ?_
          refine VL.nil ?_
          refine VE.then_wp ?_
          refine V.cond rfl (fun h7 => ?_) (fun h7 => ?_)
          · skip
            replace h7 := ic_lss h7
            refine V.skip ?_
            refine VE.then_wp ?_
            refine V.seq ?_
            refine V.block ?_
            refine V.seq ?_
            refine V.region ?_
            refine VL.r (.inl rfl) rfl (by decide) (yr_build rfl lay27_UnS rfl .nil (by first | (simp; done) | (simp [vv]; done) | (simp [cn, cn1, cn0]; done)) rfl) ?_
            refine VL.new1 (.inl rfl) rfl (by decide) (yn_alloc rfl zero27_UnS rfl) ?_
            intro b8
            refine VL.s (.inl rfl) rfl (yc_store rfl sz27_UnS rfl rfl (by repeat (first | exact UpdF.here | apply UpdF.there | apply UpdF.thereS)) (.inr ⟨rfl, rfl⟩) rfl (by first | exact Nat.le_of_ble_eq_true rfl | simp) (by decide) rfl) ?_
            rintro ⟨⟩
            refine VL.nil ?_
            refine VE.then_wp ?_
            refine V.seq ?_
            refine V.seq ?_
            refine V.region ?_
            refine VL.r (.inl rfl) rfl (by decide) (yr_assign (u := .int .i64 0) rfl rfl) ?_
            refine VL.nil ?_
            refine VE.then_wp ?_
            refine V.block ?_
            refine V.loopc (G := Nat × V3) [(0, _), (2, _), (4, _), (5, _), (6, _), (7, _), (8, _)] (fun ⟨j, v⟩ => j ≤ 3 ∧ unA s vs.length v j) (fun ⟨j, v⟩ => [⟨some ⟨b8, 0, none⟩, [.float .f32 (v).1, .float .f32 (v).2.1, .float .f32 (v).2.2], 3, 27⟩, ⟨some ⟨b4, 0, none⟩, [.float .f32 (cb .f32 (rd4 s 7)), .float .f32 (cb .f32 (rd4 s 11)), .float .f32 (cb .f32 (rd4 s 15)), .float .f32 (cb .f32 (rd4 s 19)), .int .i64 (sb s 4 : Int), .int .i64 (sb s 5 : Int), .int .i64 (sb s 6 : Int), .slice ar1 vs.length cr1], 8, 30⟩, ⟨ar1, vl vs, cr1 * 3, 27⟩, ⟨some ⟨b2, 0, none⟩, [.float .f32 0, .float .f32 0, .float .f32 0, .float .f32 0, .int .i64 0, .int .i64 0, .int .i64 0, .slice none 0 0], 8, 30⟩]) (fun ⟨j, v⟩ => [(9, .int .i64 (j : Int))]) (fun ⟨j, v⟩ => 3 - j) (0, z3) (.cons rfl (.cons rfl (.cons rfl (.cons rfl (.cons rfl (.cons rfl (.cons rfl .nil))))))) (.cons rfl .nil) ?_ ?_ ?_
            · exact (fun w hw => hw)
            · exact (by exact ⟨Nat.zero_le _, unA_0⟩)
            rintro ⟨j, v⟩ ⟨hj, hA⟩
            show V _ _ _ [⟨some ⟨b8, 0, none⟩, [.float .f32 (v).1, .float .f32 (v).2.1, .float .f32 (v).2.2], 3, 27⟩, ⟨some ⟨b4, 0, none⟩, [.float .f32 (cb .f32 (rd4 s 7)), .float .f32 (cb .f32 (rd4 s 11)), .float .f32 (cb .f32 (rd4 s 15)), .float .f32 (cb .f32 (rd4 s 19)), .int .i64 (sb s 4 : Int), .int .i64 (sb s 5 : Int), .int .i64 (sb s 6 : Int), .slice ar1 vs.length cr1], 8, 30⟩, ⟨ar1, vl vs, cr1 * 3, 27⟩, ⟨some ⟨b2, 0, none⟩, [.float .f32 0, .float .f32 0, .float .f32 0, .float .f32 0, .int .i64 0, .int .i64 0, .int .i64 0, .slice none 0 0], 8, 30⟩] ([(9, .int .i64 (j : Int))] ++ [(0, _), (2, _), (4, _), (5, _), (6, _), (7, _), (8, _)]) _ _
            refine V.seq ?_
            refine V.seq ?_
            refine V.region ?_
            refine VL.r (.inl rfl) rfl (by decide) (yr_move rfl rfl) ?_
            refine VL.r (.inl rfl) rfl (by decide) (yr_icmp rfl (.inr (.inr (.inl rfl))) rfl rfl) ?_
            refine VL.nil ?_
            refine VE.then_wp ?_
            refine V.cond rfl (fun h8 => ?_) (fun h8 => ?_)
            · skip
              replace h8 := ic_lss h8
              have hb7 := sb_lt s (27 + 6 * vs.length + 2 * j)
              have hb8 := sb_lt s (27 + 6 * vs.length + 2 * j + 1)
              have hr2 := rd2_lt s (27 + 6 * vs.length + 2 * j)
              refine V.skip ?_
              refine VE.then_wp ?_
              refine V.seq ?_
              refine V.block ?_
              refine V.seq ?_
              refine V.region ?_
              refine VL.r (.inl rfl) rfl (by decide) (yr_move rfl rfl) ?_
              refine VL.r (.inl rfl) rfl (by decide) (yr_mulN 6 vs.length rfl rfl rfl (by omega) (by omega) (Nat.le_trans (mul_small (by omega) (by omega)) (by decide))) ?_
              refine VL.r (.inl rfl) rfl (by decide) (yr_int rfl rfl rfl (.inl ⟨rfl, wrap_in (by omega)⟩)) ?_
              refine VL.r (.inl rfl) rfl (by decide) (yr_move rfl rfl) ?_
              refine VL.r (.inl rfl) rfl (by decide) (yr_mulN 2 j rfl rfl rfl (by omega) (by omega) (Nat.le_trans (mul_small (by omega) (by omega)) (by decide))) ?_
              refine VL.r (.inl rfl) rfl (by decide) (yr_int rfl rfl rfl (.inl ⟨rfl, wrap_in (by omega)⟩)) ?_
              refine VL.r (.inl rfl) rfl (by decide) (yr_assign rfl rfl) ?_
              refine VL.nil ?_
              refine VE.then_wp ?_
              refine V.seq ?_
              refine V.draw [(0, 0), (1, 0), (2, 0), (3, 0), (4, 0), (5, 0), (6, 0), (7, 0), (8, 0), (9, 0), (10, 0), (11, 0)] mixed_UnS (by kernel_rfl) (by intro j o hj; simp at hj) ?_
              refine SW.r rfl (.inl rfl) rfl (by decide) (yr_move rfl rfl) ?_
              refine SW.r rfl (.inl rfl) rfl (by decide) (yr_move rfl rfl) ?_
              refine SW.r rfl (.inl rfl) rfl (by decide) (yr_strByte (i := ((27 + (6 * vs.length)) + (2 * j))) rfl Try.underlying9 rfl rfl (by first | rfl | omega | (push_cast; rfl) | (push_cast; omega)) (by omega)) ?_
              refine SW.r rfl (.inl rfl) rfl (by decide) (yr_intConv (r := (sb s (27 + 6 * vs.length + 2 * j) : Int)) rfl Try.underlying5 Try.underlying2 rfl (i64_nat (by omega))) ?_
              refine SW.r rfl (.inl rfl) rfl (by decide) (yr_move rfl rfl) ?_
              refine SW.r rfl (.inl rfl) rfl (by decide) (yr_move rfl rfl) ?_
              refine SW.r rfl (.inl rfl) rfl (by decide) (yr_int rfl rfl rfl (.inl ⟨rfl, wrap_in (by omega)⟩)) ?_
              refine SW.r rfl (.inl rfl) rfl (by decide) (yr_strByte (i := (((27 + (6 * vs.length)) + (2 * j)) + 1)) rfl Try.underlying9 rfl rfl (by first | rfl | omega | (push_cast; rfl) | (push_cast; omega)) (by omega)) ?_
              refine SW.r rfl (.inl rfl) rfl (by decide) (yr_intConv (r := (sb s (27 + 6 * vs.length + 2 * j + 1) : Int)) rfl Try.underlying5 Try.underlying2 rfl (i64_nat (by omega))) ?_
              refine SW.r rfl (.inl rfl) rfl (by decide) (yr_shl (b := 8) (r := ((sb s (27 + 6 * vs.length + 2 * j + 1) * 2 ^ 8 : Nat) : Int)) rfl rfl rfl (shl_64 (by decide) (by omega))) ?_
              refine SW.r rfl (.inl rfl) rfl (by decide) (yr_bits (r := ((rd2 s (27 + 6 * vs.length + 2 * j) : Nat) : Int)) rfl rfl rfl (.inr ⟨rfl, or_64 (n := 8) (by omega) (by unfold rd2; omega) (by omega)⟩)) ?_
              refine SW.r rfl (.inl rfl) rfl (by decide) (yr_assign rfl rfl) ?_
              refine SW.done ?_
              refine VE.then_wp ?_
              refine V.seq ?_
              refine V.seq ?_
              refine V.region ?_
              refine VL.r (.inl rfl) rfl (by decide) (yr_move rfl rfl) ?_
              refine VL.r (.inl rfl) rfl (by decide) (yr_icmp rfl (.inr (.inr (.inr (.inr (.inl rfl))))) rfl rfl) ?_
              refine VL.nil ?_
              refine VE.then_wp ?_
              refine V.cond rfl (fun h9 => ?_) (fun h9 => ?_)
              · skip
                replace h9 := ic_gtr h9
                refine V.region ?_
                refine VL.r (.inl rfl) rfl (by decide) (yr_move rfl rfl) ?_
                refine VL.r (.inl rfl) rfl (by decide) (yr_int rfl rfl rfl (.inr (.inl ⟨rfl, wrap_in (by omega)⟩))) ?_
                refine VL.r (.inl rfl) rfl (by decide) (yr_assign rfl rfl) ?_
                refine VL.nil ?_
                refine VE.then_wp ?_
                refine V.seq ?_
                refine V.region ?_
                refine VL.r (.inl rfl) rfl (by decide) (yr_move rfl rfl) ?_
                refine VL.r (.inl rfl) rfl (by decide) (yr_fconv rfl Try.underlying23 Try.underlying56 (by decide) rfl (fover_up _)) ?_
                refine VL.r (.inl rfl) rfl (by decide) (yr_move rfl rfl) ?_
                refine VL.r (.inl rfl) rfl (by decide) (yr_ofInt rfl Try.underlying2 Try.underlying56 rfl) ?_
                refine VL.r (.inl rfl) rfl (by decide) (yr_float (b := 4674736138332667904) rfl (.inr (.inr (.inr rfl))) rfl rfl) ?_
                refine VL.r (.inl rfl) rfl (by decide) (yr_float rfl (.inr (.inr (.inl rfl))) rfl rfl) ?_
                refine VL.new (.inl rfl) rfl (by decide) (yn_callf rfl known91_UnS (.cons rfl .nil) (fun w hw => c_narN)) ?_
                rintro ⟨v113, hv113⟩
                refine VL.r (.inl rfl) rfl (by decide) (yr_assign rfl rfl) ?_
                refine VL.nil ?_
                refine VE.then_wp ?_
                refine V.draw [(0, 0), (1, 0), (2, 0), (3, 0), (4, 0), (5, 3)] mixed_UnS (by kernel_rfl) (by intro j o hj; simp at hj) ?_
                refine SW.q rfl (.inl rfl) rfl (by decide) (yq_loadS rfl Try.underlying27 sz27_UnS rfl (by first | exact Sees.root (by assumption) | exact Sees.own (by repeat (first | exact List.mem_cons_self | exact List.mem_append_left _ (by assumption) | apply List.mem_cons_of_mem | apply List.mem_append_right)) | exact Sees.root (hR _ (by omega)) | exact Sees.own (RowsIn.mem (by repeat (first | exact RowsIn.here | exact RowsIn.last | apply RowsIn.there | apply RowsIn.thereS)) _ (by omega)) | exact Sees.own (WRowsIn.mem (by repeat (first | exact WRowsIn.here | exact WRowsIn.last | apply WRowsIn.there | apply WRowsIn.thereS)) _ (by omega))) rfl rfl rfl) ?_
                refine SW.r rfl (.inl rfl) rfl (by decide) (yr_move rfl rfl) ?_
                refine SW.r rfl (.inl rfl) rfl (by decide) (yr_move rfl rfl) ?_
                refine SW.q rfl (.inl rfl) rfl (by decide) (yq_callf rfl known92_UnS (.cons rfl (.cons rfl .nil)) (fun w hw => (c_axis (j := j) (by omega)))) ?_
                refine SW.q rfl (.inl rfl) rfl (by decide) (yq_callf rfl known82_UnS (.cons rfl (.cons rfl .nil)) (fun w hw => c_add3S)) ?_
                refine SW.s rfl (.inl rfl) rfl (yc_store rfl sz27_UnS rfl rfl (by repeat (first | exact UpdF.here | apply UpdF.there | apply UpdF.thereS)) (.inr ⟨rfl, rfl⟩) rfl (by first | exact Nat.le_of_ble_eq_true rfl | simp) (by decide) rfl) ?_
                rintro ⟨⟩
                refine SW.done ?_
                refine VE.block_normal ?_
                refine VE.then_wp ?_
                refine V.region ?_
                refine VL.r (.inl rfl) rfl (by decide) (yr_move rfl rfl) ?_
                refine VL.r (.inl rfl) rfl (by decide) (yr_int rfl rfl rfl (.inl ⟨rfl, wrap_in (by omega)⟩)) ?_
                refine VL.r (.inl rfl) rfl (by decide) (yr_assign rfl rfl) ?_
                refine VL.nil ?_
                refine VE.round (j + 1, add3 v (axis3 j v113)) ?_ ?_ ?_ ?_ ?_
                · exact (.cons rfl .nil)
                · exact (.cons rfl (.cons rfl (.cons rfl (.cons rfl (.cons rfl (.cons rfl (.cons rfl .nil)))))))
                · exact (fun w hw => hw)
                · have hv7 : Nar (unX (cb .f32 (rd4 s 23)) (q16 (rd2 s (27 + 6 * vs.length + 2 * j)))) v113 := by
                    first
                    | (rw [q16_hi (by omega)]; unfold unX; exact hv113)
                    | (rw [q16_lo (by omega)]; unfold unX; exact hv113)
                  exact ⟨by omega, unA_s hA (by omega) hv7 (by omega)⟩
                · (try dsimp only); omega
              · skip
                replace h9 := ic_gtr' h9
                refine V.skip ?_
                refine VE.then_wp ?_
                refine V.seq ?_
                refine V.region ?_
                refine VL.r (.inl rfl) rfl (by decide) (yr_move rfl rfl) ?_
                refine VL.r (.inl rfl) rfl (by decide) (yr_fconv rfl Try.underlying23 Try.underlying56 (by decide) rfl (fover_up _)) ?_
                refine VL.r (.inl rfl) rfl (by decide) (yr_move rfl rfl) ?_
                refine VL.r (.inl rfl) rfl (by decide) (yr_ofInt rfl Try.underlying2 Try.underlying56 rfl) ?_
                refine VL.r (.inl rfl) rfl (by decide) (yr_float (b := 4674736138332667904) rfl (.inr (.inr (.inr rfl))) rfl rfl) ?_
                refine VL.r (.inl rfl) rfl (by decide) (yr_float rfl (.inr (.inr (.inl rfl))) rfl rfl) ?_
                refine VL.new (.inl rfl) rfl (by decide) (yn_callf rfl known91_UnS (.cons rfl .nil) (fun w hw => c_narN)) ?_
                rintro ⟨v113, hv113⟩
                refine VL.r (.inl rfl) rfl (by decide) (yr_assign rfl rfl) ?_
                refine VL.nil ?_
                refine VE.then_wp ?_
                refine V.draw [(0, 0), (1, 0), (2, 0), (3, 0), (4, 0), (5, 3)] mixed_UnS (by kernel_rfl) (by intro j o hj; simp at hj) ?_
                refine SW.q rfl (.inl rfl) rfl (by decide) (yq_loadS rfl Try.underlying27 sz27_UnS rfl (by first | exact Sees.root (by assumption) | exact Sees.own (by repeat (first | exact List.mem_cons_self | exact List.mem_append_left _ (by assumption) | apply List.mem_cons_of_mem | apply List.mem_append_right)) | exact Sees.root (hR _ (by omega)) | exact Sees.own (RowsIn.mem (by repeat (first | exact RowsIn.here | exact RowsIn.last | apply RowsIn.there | apply RowsIn.thereS)) _ (by omega)) | exact Sees.own (WRowsIn.mem (by repeat (first | exact WRowsIn.here | exact WRowsIn.last | apply WRowsIn.there | apply WRowsIn.thereS)) _ (by omega))) rfl rfl rfl) ?_
                refine SW.r rfl (.inl rfl) rfl (by decide) (yr_move rfl rfl) ?_
                refine SW.r rfl (.inl rfl) rfl (by decide) (yr_move rfl rfl) ?_
                refine SW.q rfl (.inl rfl) rfl (by decide) (yq_callf rfl known92_UnS (.cons rfl (.cons rfl .nil)) (fun w hw => (c_axis (j := j) (by omega)))) ?_
                refine SW.q rfl (.inl rfl) rfl (by decide) (yq_callf rfl known82_UnS (.cons rfl (.cons rfl .nil)) (fun w hw => c_add3S)) ?_
                refine SW.s rfl (.inl rfl) rfl (yc_store rfl sz27_UnS rfl rfl (by repeat (first | exact UpdF.here | apply UpdF.there | apply UpdF.thereS)) (.inr ⟨rfl, rfl⟩) rfl (by first | exact Nat.le_of_ble_eq_true rfl | simp) (by decide) rfl) ?_
                rintro ⟨⟩
                refine SW.done ?_
                refine VE.block_normal ?_
                refine VE.then_wp ?_
                refine V.region ?_
                refine VL.r (.inl rfl) rfl (by decide) (yr_move rfl rfl) ?_
                refine VL.r (.inl rfl) rfl (by decide) (yr_int rfl rfl rfl (.inl ⟨rfl, wrap_in (by omega)⟩)) ?_
                refine VL.r (.inl rfl) rfl (by decide) (yr_assign rfl rfl) ?_
                refine VL.nil ?_
                refine VE.round (j + 1, add3 v (axis3 j v113)) ?_ ?_ ?_ ?_ ?_
                · exact (.cons rfl .nil)
                · exact (.cons rfl (.cons rfl (.cons rfl (.cons rfl (.cons rfl (.cons rfl (.cons rfl .nil)))))))
                · exact (fun w hw => hw)
                · have hv7 : Nar (unX (cb .f32 (rd4 s 23)) (q16 (rd2 s (27 + 6 * vs.length + 2 * j)))) v113 := by
                    first
                    | (rw [q16_hi (by omega)]; unfold unX; exact hv113)
                    | (rw [q16_lo (by omega)]; unfold unX; exact hv113)
                  exact ⟨by omega, unA_s hA (by omega) hv7 (by omega)⟩
                · (try dsimp only); omega
            · skip
              replace h8 := ic_lss' h8
              refine V.exit ?_
              refine VE.then_exit ?_
              refine VE.then_exit ?_
              refine VE.block_here ?_
              refine VE.then_wp ?_
              refine V.region ?_
              refine VL.r (.inl rfl) rfl (by decide) (yr_fieldAddr rfl Try.underlying30 rfl rfl sz28_UnS (by decide) rfl) ?_
              refine VL.q (.inl rfl) rfl (by decide) (yq_load rfl fb28_UnS rfl (by first | exact Sees.root (by assumption) | exact Sees.own (by repeat (first | exact List.mem_cons_self | exact List.mem_append_left _ (by assumption) | apply List.mem_cons_of_mem | apply List.mem_append_right)) | exact Sees.root (hR _ (by omega)) | exact Sees.own (RowsIn.mem (by repeat (first | exact RowsIn.here | exact RowsIn.last | apply RowsIn.there | apply RowsIn.thereS)) _ (by omega)) | exact Sees.own (WRowsIn.mem (by repeat (first | exact WRowsIn.here | exact WRowsIn.last | apply WRowsIn.there | apply WRowsIn.thereS)) _ (by omega))) rfl) ?_
              refine VL.q (.inl rfl) rfl (by decide) (yq_loadS rfl Try.underlying27 sz27_UnS rfl (by first | exact Sees.root (by assumption) | exact Sees.own (by repeat (first | exact List.mem_cons_self | exact List.mem_append_left _ (by assumption) | apply List.mem_cons_of_mem | apply List.mem_append_right)) | exact Sees.root (hR _ (by omega)) | exact Sees.own (RowsIn.mem (by repeat (first | exact RowsIn.here | exact RowsIn.last | apply RowsIn.there | apply RowsIn.thereS)) _ (by omega)) | exact Sees.own (WRowsIn.mem (by repeat (first | exact WRowsIn.here | exact WRowsIn.last | apply WRowsIn.there | apply WRowsIn.thereS)) _ (by omega))) rfl rfl rfl) ?_
              refine VL.new1 (.inl rfl) rfl (by decide) (yn_buildSlice rfl Try.underlying28 elt27_UnS rfl (by decide) (.cons rfl .nil) (by simp) rfl rfl) ?_
              intro b122
              refine VL.c (.inl rfl) rfl (by decide) (yc_appendz 3 rfl rfl Try.underlying28 elt27_UnS rfl rfl (by repeat (first | exact UpdF.here | apply UpdF.there | apply UpdF.thereS)) (by first | exact Sees.root (by assumption) | exact Sees.own (by repeat (first | exact List.mem_cons_self | exact List.mem_append_left _ (by assumption) | apply List.mem_cons_of_mem | apply List.mem_append_right)) | exact Sees.root (hR _ (by omega)) | exact Sees.own (RowsIn.mem (by repeat (first | exact RowsIn.here | exact RowsIn.last | apply RowsIn.there | apply RowsIn.thereS)) _ (by omega)) | exact Sees.own (WRowsIn.mem (by repeat (first | exact WRowsIn.here | exact WRowsIn.last | apply WRowsIn.there | apply WRowsIn.thereS)) _ (by omega))) rfl (by rw [vl_length]) rfl (vl_scal _) rfl (by omega) (by omega)) ?_
              rintro ⟨a123, c123⟩
              refine VL.r (.inl rfl) rfl (by decide) (yr_fieldAddr rfl Try.underlying30 rfl rfl sz28_UnS (by decide) rfl) ?_
              refine VL.s (.inl rfl) rfl (yc_store rfl sz28_UnS rfl rfl (by repeat (first | exact UpdF.here | apply UpdF.there | apply UpdF.thereS)) (.inl ⟨rfl, rfl⟩) rfl (by first | exact Nat.le_of_ble_eq_true rfl | simp) (by decide) rfl) ?_
              rintro ⟨⟩
              refine VL.nil ?_
              refine VE.block_normal ?_
              refine VE.then_wp ?_
              refine V.region ?_
              refine VL.r (.inl rfl) rfl (by decide) (yr_move rfl rfl) ?_
              refine VL.r (.inl rfl) rfl (by decide) (yr_int rfl rfl rfl (.inl ⟨rfl, wrap_in (by omega)⟩)) ?_
              refine VL.r (.inl rfl) rfl (by decide) (yr_assign rfl rfl) ?_
              refine VL.nil ?_
              refine VE.round (vs ++ [v], a123, c123) ?_ ?_ ?_ ?_ ?_
              · exact (.cons (congrArg (fun i => some (Value.int .i64 i)) (by rw [List.length_append]; rfl)) .nil)
              · exact (.cons rfl (.cons rfl (.cons rfl (.cons rfl (.cons rfl .nil)))))
              · exact (fun w hw => by dsimp only; rw [← vl_snoc, List.length_append]; exact hw.pick (by apply Pick.p3; all_goals (repeat (first | exact Rem.here | apply Rem.there))))
              · (obtain rfl : j = 3 := by omega)
                exact ⟨by rw [List.length_append]; show vs.length + 1 ≤ unN s; omega, unHS_s hH hA⟩
              · dsimp only; rw [List.length_append]; show unN s - (vs.length + 1) < unN s - vs.length; omega
          · skip
            replace h7 := ic_lss' h7
            have hl9 : vs.length = unN s := by omega
            refine V.exit ?_
            refine VE.then_exit ?_
            refine VE.then_exit ?_
            refine VE.block_here ?_
            refine VE.then_wp ?_
            refine V.seq ?_
            refine V.seq ?_
            refine V.region ?_
            refine VL.q (.inl rfl) rfl (by decide) (yq_callf rfl known68_UnS (.cons rfl .nil) (fun w hw => (c_l06Is (by first | exact Sees.root (by assumption) w hw | exact Sees.own (by repeat (first | exact List.mem_cons_self | exact List.mem_append_left _ (by assumption) | apply List.mem_cons_of_mem | apply List.mem_append_right)) w hw)))) ?_
            refine VL.r (.inl rfl) rfl (by decide) (yr_not rfl rfl) ?_
            refine VL.nil ?_
            refine VE.then_wp ?_
            refine V.cond rfl (fun h10 => ?_) (fun h10 => ?_)
            · skip
              replace h10 := bnot_t h10
              have hms : unMs s = false := by unfold unMs; rw [← hl9]; exact h10
              refine V.seq ?_
              refine V.region ?_
              refine VL.r (.inl rfl) rfl (by decide) (yr_build rfl lay30_UnS rfl .nil (by first | (simp; done) | (simp [vv]; done) | (simp [cn, cn1, cn0]; done)) rfl) ?_
              refine VL.s (.inl rfl) rfl (yc_store rfl sz30_UnS rfl rfl (by repeat (first | exact UpdF.here | apply UpdF.there | apply UpdF.thereS)) (.inr ⟨rfl, rfl⟩) rfl (by first | exact Nat.le_of_ble_eq_true rfl | simp) (by decide) rfl) ?_
              rintro ⟨⟩
              refine VL.r (.inl rfl) rfl (by decide) (yr_assign (u := .bool false) rfl rfl) ?_
              refine VL.nil ?_
              refine VE.then_wp ?_
              refine V.ret ?_
              refine VE.then_ret ?_
              refine retN rfl (.cons (rv_cellS rfl Try.underlying30 sz30_UnS (by first | exact Sees.root (by assumption) | exact Sees.own (by repeat (first | exact List.mem_cons_self | exact List.mem_append_left _ (by assumption) | apply List.mem_cons_of_mem | apply List.mem_append_right)) | exact Sees.root (hR _ (by omega)) | exact Sees.own (RowsIn.mem (by repeat (first | exact RowsIn.here | exact RowsIn.last | apply RowsIn.there | apply RowsIn.thereS)) _ (by omega)) | exact Sees.own (WRowsIn.mem (by repeat (first | exact WRowsIn.here | exact WRowsIn.last | apply WRowsIn.there | apply WRowsIn.thereS)) _ (by omega))) rfl rfl rfl) (.cons (rv_tmp rfl (by nofun)) .nil)) (by nofun) (fun w1 hw => ?_)
              first
                | (have ho : unOk s = false := unOk_no (by first | exact unPre_no1 (by omega) | exact unPre_no2 (mk_no (by assumption)) | exact unPre_no4 (by omega) | exact unPre_no5 (by assumption))
                   exact ⟨⟨MX.none, MX.none_is ho⟩, (by rw [ho]; rfl), hw.below, (by intro e he; rw [List.mem_singleton.1 he]; exact .inl ⟨rfl, rfl⟩), List.pairwise_singleton _ _⟩)
                | (have hsz : szOk (sb s 4 : Int) (sb s 5 : Int) (sb s 6 : Int) = false := by assumption
                   have ho : unOk s = false := unOk_no (unPre_no5 (by unfold unMs; exact (meshOk_no3 hsz).symm))
                   exact ⟨⟨MX.none, MX.none_is ho⟩, (by rw [ho]; rfl), hw.below, (by intro e he; rw [List.mem_singleton.1 he]; exact .inl ⟨rfl, rfl⟩), List.pairwise_singleton _ _⟩)
                | (obtain ⟨hj1, hj2, hj3⟩ := un_joinS hp9 hl9 (fun k hk => hH.2 k (by rw [hl9]; exact hk))
                   first
                   | (have ho : unOk s = false := hj1 (by assumption)
                      refine ⟨⟨⟨unF s, unSt s, (sb s 4 : Int), (sb s 5 : Int), (sb s 6 : Int), ar1, cr1, vs⟩, fun h => by rw [ho] at h; cases h⟩, ?_, (hw.pick (by apply Pick.one; repeat (first | exact Rem.here | apply Rem.there))).out1⟩
                      show _ = Value.tuple #[MX.v ⟨unF s, unSt s, (sb s 4 : Int), (sb s 5 : Int), (sb s 6 : Int), ar1, cr1, vs⟩, .bool (unOk s)]
                      rw [ho]; rfl)
                   | (have ha : allF vs (vs.length * 3) = true := by assumption
                      rw [if_pos ha]
                      cases hq9 : scmp .eql (unPk s vs) s with
                      | true =>
                        obtain ⟨ho, e⟩ := hj3 ha hq9
                        refine ⟨⟨⟨unF s, unSt s, (sb s 4 : Int), (sb s 5 : Int), (sb s 6 : Int), ar1, cr1, vs⟩, fun h => ⟨rfl, rfl, rfl, rfl, rfl, e⟩⟩, ?_, (hw.pick (by apply Pick.one; repeat (first | exact Rem.here | apply Rem.there))).out1⟩
                        show _ = Value.tuple #[MX.v ⟨unF s, unSt s, (sb s 4 : Int), (sb s 5 : Int), (sb s 6 : Int), ar1, cr1, vs⟩, .bool (unOk s)]
                        rw [ho, ← hq9]; rfl
                      | false =>
                        have ho := hj2 ha hq9
                        refine ⟨⟨⟨unF s, unSt s, (sb s 4 : Int), (sb s 5 : Int), (sb s 6 : Int), ar1, cr1, vs⟩, fun h => by rw [ho] at h; cases h⟩, ?_, (hw.pick (by apply Pick.one; repeat (first | exact Rem.here | apply Rem.there))).out1⟩
                        show _ = Value.tuple #[MX.v ⟨unF s, unSt s, (sb s 4 : Int), (sb s 5 : Int), (sb s 6 : Int), ar1, cr1, vs⟩, .bool (unOk s)]
                        rw [ho, ← hq9]; rfl))
            · skip
              replace h10 := bnot_f h10
              have hms : unMs s = true := by unfold unMs; rw [← hl9]; exact h10
              have hp9 : unPre s = true := unPre_yes (by omega) hmk (by omega) (by omega) hms
              refine V.skip ?_
              refine VE.then_wp ?_
              refine V.seq ?_
              refine V.region ?_
              refine VL.q (.inl rfl) rfl (by decide) (yq_callf rfl known93_UnS (.cons rfl .nil) (fun w hw => (c_specPack (by first | exact Sees.root (by assumption) w hw | exact Sees.own (by repeat (first | exact List.mem_cons_self | exact List.mem_append_left _ (by assumption) | apply List.mem_cons_of_mem | apply List.mem_append_right)) w hw) (by first | exact Sees.root (by assumption) w hw | exact Sees.own (by repeat (first | exact List.mem_cons_self | exact List.mem_append_left _ (by assumption) | apply List.mem_cons_of_mem | apply List.mem_append_right)) w hw) hH.1 can_unF can_unSt (by omega)))) ?_
              refine VL.r (.inl rfl) rfl (by decide) (yr_move rfl rfl) ?_
              refine VL.r (.inl rfl) rfl (by decide) (yr_extract rfl rfl rfl (by nofun)) ?_
              refine VL.r (.inl rfl) rfl (by decide) (yr_extract rfl rfl rfl (by nofun)) ?_
              refine VL.r (.inl rfl) rfl (by decide) (yr_assign rfl rfl) ?_
              refine VL.r (.inl rfl) rfl (by decide) (yr_assign rfl rfl) ?_
              refine VL.nil ?_
              refine VE.then_wp ?_
              refine V.seq ?_
              refine V.region ?_
              refine VL.q (.inl rfl) rfl (by decide) (yq_loadS rfl Try.underlying30 sz30_UnS rfl (by first | exact Sees.root (by assumption) | exact Sees.own (by repeat (first | exact List.mem_cons_self | exact List.mem_append_left _ (by assumption) | apply List.mem_cons_of_mem | apply List.mem_append_right)) | exact Sees.root (hR _ (by omega)) | exact Sees.own (RowsIn.mem (by repeat (first | exact RowsIn.here | exact RowsIn.last | apply RowsIn.there | apply RowsIn.thereS)) _ (by omega)) | exact Sees.own (WRowsIn.mem (by repeat (first | exact WRowsIn.here | exact WRowsIn.last | apply WRowsIn.there | apply WRowsIn.thereS)) _ (by omega))) rfl rfl rfl) ?_
              refine VL.r (.inl rfl) rfl (by decide) (yr_move rfl rfl) ?_
              refine VL.r (.inl rfl) rfl (by decide) (yr_move rfl rfl) ?_
              refine VX.split 134 _ rfl (fun h11 => ?_) (fun h11 => ?_)
              · skip
                refine VL.r (.inr ⟨_, _, _, rfl, rfl, rfl⟩) rfl (by decide) (yr_move rfl rfl) ?_
                refine VL.r (.inr ⟨_, _, _, rfl, rfl, rfl⟩) rfl (by decide) (yr_move rfl rfl) ?_
                refine VL.r (.inr ⟨_, _, _, rfl, rfl, rfl⟩) rfl (by decide) (yr_scmp rfl rfl rfl (.inl rfl)) ?_
                refine VL.r (.inl rfl) rfl (by decide) (yr_pick_t rfl rfl rfl) ?_
                refine VL.s (.inl rfl) rfl (yc_store rfl sz30_UnS rfl rfl (by repeat (first | exact UpdF.here | apply UpdF.there | apply UpdF.thereS)) (.inr ⟨rfl, rfl⟩) rfl (by first | exact Nat.le_of_ble_eq_true rfl | simp) (by decide) rfl) ?_
                rintro ⟨⟩
                refine VL.r (.inl rfl) rfl (by decide) (yr_assign rfl rfl) ?_
                refine VL.nil ?_
                refine VE.then_wp ?_
                refine V.ret ?_
                refine retN rfl (.cons (rv_cellS rfl Try.underlying30 sz30_UnS (by first | exact Sees.root (by assumption) | exact Sees.own (by repeat (first | exact List.mem_cons_self | exact List.mem_append_left _ (by assumption) | apply List.mem_cons_of_mem | apply List.mem_append_right)) | exact Sees.root (hR _ (by omega)) | exact Sees.own (RowsIn.mem (by repeat (first | exact RowsIn.here | exact RowsIn.last | apply RowsIn.there | apply RowsIn.thereS)) _ (by omega)) | exact Sees.own (WRowsIn.mem (by repeat (first | exact WRowsIn.here | exact WRowsIn.last | apply WRowsIn.there | apply WRowsIn.thereS)) _ (by omega))) rfl rfl rfl) (.cons (rv_tmp rfl (by nofun)) .nil)) (by nofun) (fun w1 hw => ?_)
                first
                  | (have ho : unOk s = false := unOk_no (by first | exact unPre_no1 (by omega) | exact unPre_no2 (mk_no (by assumption)) | exact unPre_no4 (by omega) | exact unPre_no5 (by assumption))
                     exact ⟨⟨MX.none, MX.none_is ho⟩, (by rw [ho]; rfl), hw.below, (by intro e he; rw [List.mem_singleton.1 he]; exact .inl ⟨rfl, rfl⟩), List.pairwise_singleton _ _⟩)
                  | (have hsz : szOk (sb s 4 : Int) (sb s 5 : Int) (sb s 6 : Int) = false := by assumption
                     have ho : unOk s = false := unOk_no (unPre_no5 (by unfold unMs; exact (meshOk_no3 hsz).symm))
                     exact ⟨⟨MX.none, MX.none_is ho⟩, (by rw [ho]; rfl), hw.below, (by intro e he; rw [List.mem_singleton.1 he]; exact .inl ⟨rfl, rfl⟩), List.pairwise_singleton _ _⟩)
                  | (obtain ⟨hj1, hj2, hj3⟩ := un_joinS hp9 hl9 (fun k hk => hH.2 k (by rw [hl9]; exact hk))
                     first
                     | (have ho : unOk s = false := hj1 (by assumption)
                        refine ⟨⟨⟨unF s, unSt s, (sb s 4 : Int), (sb s 5 : Int), (sb s 6 : Int), ar1, cr1, vs⟩, fun h => by rw [ho] at h; cases h⟩, ?_, (hw.pick (by apply Pick.one; repeat (first | exact Rem.here | apply Rem.there))).out1⟩
                        show _ = Value.tuple #[MX.v ⟨unF s, unSt s, (sb s 4 : Int), (sb s 5 : Int), (sb s 6 : Int), ar1, cr1, vs⟩, .bool (unOk s)]
                        rw [ho]; rfl)
                     | (have ha : allF vs (vs.length * 3) = true := by assumption
                        rw [if_pos ha]
                        cases hq9 : scmp .eql (unPk s vs) s with
                        | true =>
                          obtain ⟨ho, e⟩ := hj3 ha hq9
                          refine ⟨⟨⟨unF s, unSt s, (sb s 4 : Int), (sb s 5 : Int), (sb s 6 : Int), ar1, cr1, vs⟩, fun h => ⟨rfl, rfl, rfl, rfl, rfl, e⟩⟩, ?_, (hw.pick (by apply Pick.one; repeat (first | exact Rem.here | apply Rem.there))).out1⟩
                          show _ = Value.tuple #[MX.v ⟨unF s, unSt s, (sb s 4 : Int), (sb s 5 : Int), (sb s 6 : Int), ar1, cr1, vs⟩, .bool (unOk s)]
                          rw [ho, ← hq9]; rfl
                        | false =>
                          have ho := hj2 ha hq9
                          refine ⟨⟨⟨unF s, unSt s, (sb s 4 : Int), (sb s 5 : Int), (sb s 6 : Int), ar1, cr1, vs⟩, fun h => by rw [ho] at h; cases h⟩, ?_, (hw.pick (by apply Pick.one; repeat (first | exact Rem.here | apply Rem.there))).out1⟩
                          show _ = Value.tuple #[MX.v ⟨unF s, unSt s, (sb s 4 : Int), (sb s 5 : Int), (sb s 6 : Int), ar1, cr1, vs⟩, .bool (unOk s)]
                          rw [ho, ← hq9]; rfl))
              · skip
                refine VL.no rfl rfl rfl rfl rfl (by decide) ?_
                refine VL.no rfl rfl rfl rfl rfl (by decide) ?_
                refine VL.no rfl rfl rfl rfl rfl (by decide) ?_
                refine VL.r (.inl rfl) rfl (by decide) (yr_pick_f (u := .bool false) rfl rfl rfl) ?_
                refine VL.s (.inl rfl) rfl (yc_store rfl sz30_UnS rfl rfl (by repeat (first | exact UpdF.here | apply UpdF.there | apply UpdF.thereS)) (.inr ⟨rfl, rfl⟩) rfl (by first | exact Nat.le_of_ble_eq_true rfl | simp) (by decide) rfl) ?_
                rintro ⟨⟩
                refine VL.r (.inl rfl) rfl (by decide) (yr_assign rfl rfl) ?_
                refine VL.nil ?_
                refine VE.then_wp ?_
                refine V.ret ?_
                refine retN rfl (.cons (rv_cellS rfl Try.underlying30 sz30_UnS (by first | exact Sees.root (by assumption) | exact Sees.own (by repeat (first | exact List.mem_cons_self | exact List.mem_append_left _ (by assumption) | apply List.mem_cons_of_mem | apply List.mem_append_right)) | exact Sees.root (hR _ (by omega)) | exact Sees.own (RowsIn.mem (by repeat (first | exact RowsIn.here | exact RowsIn.last | apply RowsIn.there | apply RowsIn.thereS)) _ (by omega)) | exact Sees.own (WRowsIn.mem (by repeat (first | exact WRowsIn.here | exact WRowsIn.last | apply WRowsIn.there | apply WRowsIn.thereS)) _ (by omega))) rfl rfl rfl) (.cons (rv_tmp rfl (by nofun)) .nil)) (by nofun) (fun w1 hw => ?_)
                first
                  | (have ho : unOk s = false := unOk_no (by first | exact unPre_no1 (by omega) | exact unPre_no2 (mk_no (by assumption)) | exact unPre_no4 (by omega) | exact unPre_no5 (by assumption))
                     exact ⟨⟨MX.none, MX.none_is ho⟩, (by rw [ho]; rfl), hw.below, (by intro e he; rw [List.mem_singleton.1 he]; exact .inl ⟨rfl, rfl⟩), List.pairwise_singleton _ _⟩)
                  | (have hsz : szOk (sb s 4 : Int) (sb s 5 : Int) (sb s 6 : Int) = false := by assumption
                     have ho : unOk s = false := unOk_no (unPre_no5 (by unfold unMs; exact (meshOk_no3 hsz).symm))
                     exact ⟨⟨MX.none, MX.none_is ho⟩, (by rw [ho]; rfl), hw.below, (by intro e he; rw [List.mem_singleton.1 he]; exact .inl ⟨rfl, rfl⟩), List.pairwise_singleton _ _⟩)
                  | (obtain ⟨hj1, hj2, hj3⟩ := un_joinS hp9 hl9 (fun k hk => hH.2 k (by rw [hl9]; exact hk))
                     first
                     | (have ho : unOk s = false := hj1 (by assumption)
                        refine ⟨⟨⟨unF s, unSt s, (sb s 4 : Int), (sb s 5 : Int), (sb s 6 : Int), ar1, cr1, vs⟩, fun h => by rw [ho] at h; cases h⟩, ?_, (hw.pick (by apply Pick.one; repeat (first | exact Rem.here | apply Rem.there))).out1⟩
                        show _ = Value.tuple #[MX.v ⟨unF s, unSt s, (sb s 4 : Int), (sb s 5 : Int), (sb s 6 : Int), ar1, cr1, vs⟩, .bool (unOk s)]
                        rw [ho]; rfl)
                     | (have ha : allF vs (vs.length * 3) = true := by assumption
                        rw [if_pos ha]
                        cases hq9 : scmp .eql (unPk s vs) s with
                        | true =>
                          obtain ⟨ho, e⟩ := hj3 ha hq9
                          refine ⟨⟨⟨unF s, unSt s, (sb s 4 : Int), (sb s 5 : Int), (sb s 6 : Int), ar1, cr1, vs⟩, fun h => ⟨rfl, rfl, rfl, rfl, rfl, e⟩⟩, ?_, (hw.pick (by apply Pick.one; repeat (first | exact Rem.here | apply Rem.there))).out1⟩
                          show _ = Value.tuple #[MX.v ⟨unF s, unSt s, (sb s 4 : Int), (sb s 5 : Int), (sb s 6 : Int), ar1, cr1, vs⟩, .bool (unOk s)]
                          rw [ho, ← hq9]; rfl
                        | false =>
                          have ho := hj2 ha hq9
                          refine ⟨⟨⟨unF s, unSt s, (sb s 4 : Int), (sb s 5 : Int), (sb s 6 : Int), ar1, cr1, vs⟩, fun h => by rw [ho] at h; cases h⟩, ?_, (hw.pick (by apply Pick.one; repeat (first | exact Rem.here | apply Rem.there))).out1⟩
                          show _ = Value.tuple #[MX.v ⟨unF s, unSt s, (sb s 4 : Int), (sb s 5 : Int), (sb s 6 : Int), ar1, cr1, vs⟩, .bool (unOk s)]
                          rw [ho, ← hq9]; rfl))

theorem c_specUn {w : World} {s : ByteArray} (hs : s.size ≤ 1048576) : New Try.prog 18 [.string s] w (fun p : Option Addr × Nat => unRes s p) (fun p => [⟨p.1, vl (unR s), p.2 * 3, 27⟩]) := by
  refine New.enter Try.func18 rfl Try.ntmps18 (Nat.le_of_ble_eq_true rfl) ?_
  refine V.seq ?_
  refine V.region ?_
  refine VL.new1 (.inl rfl) rfl (by decide) (yn_alloc rfl zero30_UnS rfl) ?_
  intro b2
  refine VL.r (.inl rfl) rfl (by decide) (yr_assign (u := .bool false) rfl rfl) ?_
  refine VL.nil ?_
  refine VE.then_wp ?_
  refine V.seq ?_
  refine V.region ?_
  refine VL.r (.inl rfl) rfl (by decide) (yr_move rfl rfl) ?_
  refine VL.new1 (.inl rfl) rfl (by decide) (yn_callf rfl known54_UnS (.cons rfl .nil) (fun w hw => (c_l06Unpack (by assumption)))) ?_
  rintro ⟨x8, hx8⟩
  refine VL.r (.inl rfl) rfl (by decide) (yr_move rfl rfl) ?_
  refine VL.r (.inl rfl) rfl (by decide) (yr_extract rfl rfl rfl (by nofun)) ?_
  refine VL.r (.inl rfl) rfl (by decide) (yr_extract rfl rfl rfl (by nofun)) ?_
  refine VL.new1 (.inl rfl) rfl (by decide) (yn_alloc rfl zero30_UnS rfl) ?_
  intro b4
  refine VL.s (.inl rfl) rfl (yc_store rfl sz30_UnS rfl rfl (by repeat (first | exact UpdF.here | apply UpdF.there | apply UpdF.thereS)) (.inr ⟨rfl, rfl⟩) rfl (by first | exact Nat.le_of_ble_eq_true rfl | simp) (by decide) rfl) ?_
  rintro ⟨⟩
  refine VL.r (.inl rfl) rfl (by decide) (yr_assign rfl rfl) ?_
  refine VL.nil ?_
  refine VE.then_wp ?_
  refine V.seq ?_
  refine V.seq ?_
  refine V.region ?_
  refine VL.r (.inl rfl) rfl (by decide) (yr_move rfl rfl) ?_
  refine VL.r (.inl rfl) rfl (by decide) (yr_not rfl rfl) ?_
  refine VL.nil ?_
  refine VE.then_wp ?_
  refine V.cond rfl (fun h1 => ?_) (fun h1 => ?_)
  · skip
    replace h1 := bnot_t h1
    refine V.seq ?_
    refine V.region ?_
    refine VL.r (.inl rfl) rfl (by decide) (yr_build rfl lay30_UnS rfl .nil (by first | (simp; done) | (simp [vv]; done) | (simp [cn, cn1, cn0]; done)) rfl) ?_
    refine VL.s (.inl rfl) rfl (yc_store rfl sz30_UnS rfl rfl (by repeat (first | exact UpdF.here | apply UpdF.there | apply UpdF.thereS)) (.inr ⟨rfl, rfl⟩) rfl (by first | exact Nat.le_of_ble_eq_true rfl | simp) (by decide) rfl) ?_
    rintro ⟨⟩
    refine VL.r (.inl rfl) rfl (by decide) (yr_assign (u := .bool false) rfl rfl) ?_
    refine VL.nil ?_
    refine VE.then_wp ?_
    refine V.ret ?_
    refine VE.then_ret ?_
    refine retN rfl (.cons (rv_cellS rfl Try.underlying30 sz30_UnS (by first | exact Sees.root (by assumption) | exact Sees.own (by repeat (first | exact List.mem_cons_self | exact List.mem_append_left _ (by assumption) | apply List.mem_cons_of_mem | apply List.mem_append_right)) | exact Sees.root (hR _ (by omega)) | exact Sees.own (RowsIn.mem (by repeat (first | exact RowsIn.here | exact RowsIn.last | apply RowsIn.there | apply RowsIn.thereS)) _ (by omega)) | exact Sees.own (WRowsIn.mem (by repeat (first | exact WRowsIn.here | exact WRowsIn.last | apply WRowsIn.there | apply WRowsIn.thereS)) _ (by omega))) rfl rfl rfl) (.cons (rv_tmp rfl (by nofun)) .nil)) (by nofun) (fun w1 hw => ?_)
    first
      | (have ho : unOk s = false := by assumption
         exact ⟨(none, 0), (unRes_no ho).symm, hw.below, unEnt_no ho, List.pairwise_singleton _ _⟩)
      | (have ho : unOk s = true := by assumption
         obtain ⟨e1, e2, e3, e4, e5, e6⟩ := hx8 ho
         refine ⟨(x8.ar, x8.cr), ?_, ?_⟩
         · rw [unRes_yes ho, ← e1, ← e2, ← e3, ← e4, ← e5, ← e6]; rfl
         · rw [unR_yes ho, ← e6]; exact (hw.pick (by apply Pick.one; repeat (first | exact Rem.here | apply Rem.there))).out1)
  · skip
    replace h1 := bnot_f h1
    refine V.skip ?_
    refine VE.then_wp ?_
    refine V.seq ?_
    refine V.region ?_
    refine VL.q (.inl rfl) rfl (by decide) (yq_loadS rfl Try.underlying30 sz30_UnS rfl (by first | exact Sees.root (by assumption) | exact Sees.own (by repeat (first | exact List.mem_cons_self | exact List.mem_append_left _ (by assumption) | apply List.mem_cons_of_mem | apply List.mem_append_right)) | exact Sees.root (hR _ (by omega)) | exact Sees.own (RowsIn.mem (by repeat (first | exact RowsIn.here | exact RowsIn.last | apply RowsIn.there | apply RowsIn.thereS)) _ (by omega)) | exact Sees.own (WRowsIn.mem (by repeat (first | exact WRowsIn.here | exact WRowsIn.last | apply WRowsIn.there | apply WRowsIn.thereS)) _ (by omega))) rfl rfl rfl) ?_
    refine VL.s (.inl rfl) rfl (yc_store rfl sz30_UnS rfl rfl (by repeat (first | exact UpdF.here | apply UpdF.there | apply UpdF.thereS)) (.inr ⟨rfl, rfl⟩) rfl (by first | exact Nat.le_of_ble_eq_true rfl | simp) (by decide) rfl) ?_
    rintro ⟨⟩
    refine VL.r (.inl rfl) rfl (by decide) (yr_assign (u := .bool true) rfl rfl) ?_
    refine VL.nil ?_
    refine VE.then_wp ?_
    refine V.ret ?_
    refine retN rfl (.cons (rv_cellS rfl Try.underlying30 sz30_UnS (by first | exact Sees.root (by assumption) | exact Sees.own (by repeat (first | exact List.mem_cons_self | exact List.mem_append_left _ (by assumption) | apply List.mem_cons_of_mem | apply List.mem_append_right)) | exact Sees.root (hR _ (by omega)) | exact Sees.own (RowsIn.mem (by repeat (first | exact RowsIn.here | exact RowsIn.last | apply RowsIn.there | apply RowsIn.thereS)) _ (by omega)) | exact Sees.own (WRowsIn.mem (by repeat (first | exact WRowsIn.here | exact WRowsIn.last | apply WRowsIn.there | apply WRowsIn.thereS)) _ (by omega))) rfl rfl rfl) (.cons (rv_tmp rfl (by nofun)) .nil)) (by nofun) (fun w1 hw => ?_)
    first
      | (have ho : unOk s = false := by assumption
         exact ⟨(none, 0), (unRes_no ho).symm, hw.below, unEnt_no ho, List.pairwise_singleton _ _⟩)
      | (have ho : unOk s = true := by assumption
         obtain ⟨e1, e2, e3, e4, e5, e6⟩ := hx8 ho
         refine ⟨(x8.ar, x8.cr), ?_, ?_⟩
         · rw [unRes_yes ho, ← e1, ← e2, ← e3, ← e4, ← e5, ← e6]; rfl
         · rw [unR_yes ho, ← e6]; exact (hw.pick (by apply Pick.one; repeat (first | exact Rem.here | apply Rem.there))).out1)

end Go.Proofs.Ytnommdpgmoljcaa


namespace Go.Proofs.Ytnommdpgmoljcaa
open Go.RowKit
set_option linter.unusedVariables false
set_option linter.unusedSimpArgs false
set_option maxRecDepth 20000




end Go.Proofs.Ytnommdpgmoljcaa


namespace Go.Proofs.Ytnommdpgmoljcaa
open Go.RowKit
set_option linter.unusedVariables false
set_option linter.unusedSimpArgs false
set_option maxRecDepth 20000

attribute [local irreducible] fop fcmp fconv sqrt32 fneg segF fieldS fieldI List.getD

end Go.Proofs.Ytnommdpgmoljcaa


namespace Go.Proofs.Ytnommdpgmoljcaa
open Go.RowKit
set_option linter.unusedVariables false
set_option linter.unusedSimpArgs false
set_option maxRecDepth 20000

attribute [local irreducible] fop fcmp fconv sqrt32 fneg segF fieldS fieldI List.getD unit3 dirV dirI midI stepV stepOk dirOk


end Go.Proofs.Ytnommdpgmoljcaa


namespace Go.Proofs.Ytnommdpgmoljcaa
open Go.RowKit

def stK (ws : List Wr) (p : V3) (h : Nat) : Nat → V3 × Bool
  | 0 => (p, true)
  | k + 1 => if (stK ws p h k).2 then (stepV ws (stK ws p h k).1 h, stepOk ws (stK ws p h k).1 h) else (z3, false)
section
variable {ws : List Wr} {p : V3} {h st near : Nat}
end
def hN (st n : Nat) : Nat := fop .quo .f32 st (FloatKind.f32.nearest (n : Int))
section
variable {ws : List Wr} {p : V3} {st near i : Nat}
end
section
variable {ws : List Wr} {p : V3} {st near i : Nat}
end

/-! ### checked -/
section
variable {ws : List Wr} {p : V3} {st near i : Nat}
end
end Go.Proofs.Ytnommdpgmoljcaa


namespace Go.Proofs.Ytnommdpgmoljcaa
open Go.RowKit

def flat : List V3 → List Nat
  | [] => []
  | v :: vs => v.1 :: v.2.1 :: v.2.2 :: flat vs
theorem vl_flat : ∀ vs : List V3, vl vs = fl (flat vs)
  | [] => rfl
  | v :: vs => by
    have ih := vl_flat vs
    simp only [vl, flat, ih, fl, List.map_cons]
theorem flat_length : ∀ vs : List V3, (flat vs).length = vs.length * 3
  | [] => rfl
  | v :: vs => by simp only [flat, List.length_cons, flat_length vs]; omega
theorem marks3 {ys : List Nat} {k0 : Int} {n k : Nat} (hl : ys.length = n * 3) (ht : ys.take (k * 3) = marks k0 (k * 3)) (hk : k < n) :
    (((ys.set (k * 3) (FloatKind.f32.nearest (k0 + ((k * 3 : Nat) : Int)))).set (k * 3 + 1) (FloatKind.f32.nearest (k0 + ((k * 3 : Nat) : Int) + 1))).set (k * 3 + 2) (FloatKind.f32.nearest (k0 + ((k * 3 : Nat) : Int) + 1 + 1))).take ((k + 1) * 3) = marks k0 ((k + 1) * 3) := by
  have h1 := take_marks hl ht (by omega)
  have h2 := take_marks (n := n * 3) (by simp [hl]) h1 (by omega)
  have h3 := take_marks (n := n * 3) (by simp [hl]) h2 (by omega)
  rw [show k0 + ((k * 3 + 1 : Nat) : Int) = k0 + ((k * 3 : Nat) : Int) + 1 by omega, show k0 + ((k * 3 + 1 + 1 : Nat) : Int) = k0 + ((k * 3 : Nat) : Int) + 1 + 1 by omega] at h3
  rw [show (k + 1) * 3 = k * 3 + 1 + 1 + 1 by omega]
  exact h3
/-- A list of headers of wires of which the points alone are told. -/
def WH (f : Nat → Option Addr × Nat) (ws : List Wr) (us : List Value) : Prop := us.length = ws.length * 3 ∧ us.all scal = true ∧ ∀ i, i < ws.length → us[i * 3]? = some (.slice (f i).1 (ws.getD i zw).1.length (f i).2)
theorem WH.first (f : Nat → Option Addr × Nat) (ws : List Wr) : WH f ws (whd f ws) := ⟨whd_length f ws, whd_scal f ws, fun _ h => whd_get0 h⟩
theorem WH.set {f : Nat → Option Addr × Nat} {ws : List Wr} {us : List Value} {j : Nat} {v : Value} (h : WH f ws us) (hj : j % 3 ≠ 0) (hv : scal v = true) : WH f ws (us.set j v) := by
  refine ⟨by rw [List.length_set]; exact h.1, ?_, fun i hi => ?_⟩
  · rw [List.all_eq_true]
    intro x hx
    rcases List.mem_or_eq_of_mem_set hx with h1 | h1
    · exact (List.all_eq_true.1 h.2.1) x h1
    · rw [h1]; exact hv
  · rw [List.getElem?_set_ne (by omega)]
    exact h.2.2 i hi
/-! ### a line -/
section
variable {ws : List Wr} {p : V3} {st k n : Nat}
end
section
variable {ws : List Wr} {p : V3} {st : Nat} {rn : Int}
end
end Go.Proofs.Ytnommdpgmoljcaa

