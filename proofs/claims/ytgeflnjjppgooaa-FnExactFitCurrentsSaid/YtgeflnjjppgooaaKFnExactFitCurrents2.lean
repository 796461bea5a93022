/- Own texts of this claim, merged: Open, Nmk, Vw, Frk. -/
import GoSem.Dispatch
import Derived.Conc.Events
import Derived.Conc.CompanyDraw
import Derived.Test.YtgeflnjjppgooaaKFnExactFitCurrents1
namespace Go.Proofs.Ytgeflnjjppgooaa
open Go.RowKit Go.ChangeShapes Go.WideShapes Go.Deep
section
variable {H : Type} {enc : TypeId × Value → H} {P : Program} {w : World} {base : Nat} {spare : Nat → Bool} {held : Bool}
theorem trod_fls {k : FloatKind} {t e : TypeId} {fuel : Nat} {cs : List Value} {x : DataW H × List MemPlace} (ht : P.underlying t = some (.slice e)) (he : P.underlying e = some (.float k)) (hc : P.cellsOf e = 1)
    (hd : DataW.trod enc P w base spare held fuel t cs = some x) :
    ∃ (a : Option Addr) (xs : List Nat) (c : Nat), cs = [.slice a xs.length c] ∧ Cl w a (xs.map (Value.float k)) ∧ (∀ x ∈ xs, Can k x) ∧ xs.length ≤ 9223372036854775807 := by
  rcases open_slice1 ht hc hd with ⟨h, _⟩ | ⟨a', len', cap', m, n, V, D, Pl, h, hb, hlc, hm, rfl, hx, hV⟩
  · exact ⟨none, [], 0, h, .inl rfl, by simp, by simp⟩
  · have hm' : len' ≤ (if spare a'.block then cap' else len') := by split <;> omega
    have hfl : ∀ i, i < len' → ∃ b, V i = .float k b ∧ b < 2 ^ k.format.width := by
      intro i hi
      have := (hV i (by omega)).2
      cases n with
      | zero => simp [DataW.trod] at this
      | succ n =>
        simp only [DataW.trod, he] at this
        revert this
        cases V i <;> simp
        intro h1 h2; intros; subst h1; exact ⟨_, ⟨rfl, rfl⟩, wf_lt h2⟩
    obtain ⟨B, hB⟩ := choose_lt hfl
    refine ⟨some a', (List.range len').map (fun i => cb k (B i)), cap', by simp [h], ?_, ?_, ?_⟩
    · by_cases h0 : len' = 0
      · subst h0; exact .inl rfl
      · have hsp : a'.spot = none := by
          have := (hV 0 (by omega)).1
          simpa [Addr.add] using World.cell?_spot this
        obtain ⟨bk, off, spot⟩ := a'
        simp only at hsp
        subst hsp
        refine .inr ⟨_, rfl, rfl, fun i u hu => ?_⟩
        simp only [List.getElem?_map, Option.map_eq_some_iff, List.map_map] at hu
        obtain ⟨j, hj, rfl⟩ := hu
        obtain ⟨hlt, rfl⟩ := List.getElem?_eq_some_iff.1 hj
        simp only [List.length_range] at hlt
        have h1 := (hV i (by omega)).1
        rw [add_plain] at h1
        refine ⟨V i, h1, ?_⟩
        rw [(hB i hlt).1]
        simp [cn, cn1, cn0]
    · intro x hx
      obtain ⟨i, hi, rfl⟩ := List.mem_map.1 hx
      exact can_cb k (hB i (by simpa using hi)).2
    · have hml : maxLen ≤ 9223372036854775807 := by decide
      simp; omega
theorem trod_rows {t e q : TypeId} {fuel : Nat} {cs : List Value} {x : DataW H × List MemPlace} (ht : P.underlying t = some (.slice e)) (he : P.underlying e = some (.slice q)) (hq : P.underlying q = some (.float .f32)) (hc : P.cellsOf e = 1) (hcq : P.cellsOf q = 1)
    (hdd : DataW.trod enc P w base spare held fuel t cs = some x) :
    ∃ (a : Option Addr) (f : Nat → Option Addr × Nat) (xss : List (List Nat)) (c : Nat), cs = [.slice a xss.length c] ∧ Cl w a (hd f xss) ∧ Rws w f xss ∧ Cans xss ∧ xss.length ≤ 9223372036854775807 ∧ ∀ i, i < xss.length → (xss.getD i []).length ≤ 9223372036854775807 := by
  rcases open_slice1 ht hc hdd with ⟨h, _⟩ | ⟨a', len', cap', m, n, V, D, Pl, h, hb, hlc, hm, rfl, hx, hV⟩
  · exact ⟨none, fun _ => (none, 0), [], 0, h, .inl rfl, fun i hi => by simp at hi, fun xs hxs => by simp at hxs, by simp, fun i hi => by simp at hi⟩
  · have hm' : len' ≤ (if spare a'.block then cap' else len') := by split <;> omega
    have hrow : ∀ i, i < len' → ∃ r : (Option Addr × Nat) × List Nat, V i = .slice r.1.1 r.2.length r.1.2 ∧ Cl w r.1.1 (fl r.2) ∧ (∀ x ∈ r.2, Can .f32 x) ∧ r.2.length ≤ 9223372036854775807 := by
      intro i hi
      obtain ⟨a, xs, c, h1, h2, h3, h4⟩ := trod_fls he hq hcq (hV i (by omega)).2
      exact ⟨((a, c), xs), by simpa using h1, h2, h3, h4⟩
    obtain ⟨R, hR⟩ := choose_lt hrow
    have hget : ∀ i, i < len' → ((List.range len').map (fun i => (R i).2)).getD i [] = (R i).2 := fun i hi => by simp [List.getD, hi]
    refine ⟨some a', fun i => (R i).1, (List.range len').map (fun i => (R i).2), cap', by simp [h], ?_, ?_, ?_, ?_, ?_⟩
    · by_cases h0 : len' = 0
      · subst h0; exact .inl rfl
      · have hsp : a'.spot = none := by
          have := (hV 0 (by omega)).1
          simpa [Addr.add] using World.cell?_spot this
        obtain ⟨bk, off, spot⟩ := a'
        simp only at hsp
        subst hsp
        refine .inr ⟨_, rfl, rfl, fun i u hu => ?_⟩
        have hlt : i < len' := by
          have := (List.getElem?_eq_some_iff.1 hu).1
          simpa [hd_length] using this
        rw [hd_get (by simpa using hlt), Option.some.injEq] at hu
        have h1 := (hV i (by omega)).1
        rw [add_plain] at h1
        refine ⟨V i, h1, ?_⟩
        rw [(hR i hlt).1, ← hu, hget i hlt]
        rfl
    · intro i hi
      have hi' : i < len' := by simpa using hi
      rw [hget i hi']
      exact (hR i hi').2.1
    · intro xs hxs
      obtain ⟨i, hi, rfl⟩ := List.mem_map.1 hxs
      exact (hR i (by simpa using hi)).2.2.1
    · have hml : maxLen ≤ 9223372036854775807 := by decide
      simp; omega
    · intro i hi
      have hi' : i < len' := by simpa using hi
      rw [hget i hi']
      exact (hR i hi').2.2.2
/-- A struct's field, by its cells. -/
theorem trod_field {t : TypeId} {fs : Array Field} {fuel : Nat} {cs : List Value} {x : DataW H × List MemPlace} (ht : P.underlying t = some (.struct fs)) (h : DataW.trod enc P w base spare held fuel t cs = some x) :
    cs.length = P.cellsOf t ∧ ∀ (i : Nat) (fd : Field), fs[i]? = some fd → ∃ y n, DataW.trod enc P w base spare held n fd.type ((cs.drop fd.offset).take (P.cellsOf fd.type)) = some y := by
  obtain ⟨xs, n, _, rfl, hl, hlen, hf⟩ := DataW.trod_struct ht h
  refine ⟨hl, fun i fd hi => ?_⟩
  have h1 := hf i fd hi
  have hlt : i < xs.length := by
    have := (Array.getElem?_eq_some_iff.1 hi).1
    omega
  rw [List.getElem?_eq_getElem hlt] at h1
  exact ⟨_, n, h1⟩
end
end Go.Proofs.Ytgeflnjjppgooaa

namespace Go.Proofs.Ytgeflnjjppgooaa
open Go
/-- No entry of these marks is the one that makes deaf, or the one that makes hear. -/
def okMark (m : Mark) : Prop := m ≠ .disable ∧ m ≠ .enable
def NM {α : Type} : Sem α → Prop
  | .pure _ => True
  | .halt _ => True
  | .load _ _ k => ∀ v, NM (k v)
  | .store _ _ _ k => NM k
  | .new _ k => ∀ r, NM (k r)
  | .shape _ k => ∀ s, NM (k s)
  | .freeze _ _ k => NM k
  | .frozen _ k => ∀ b, NM (k b)
  | .getObj _ k => ∀ o, NM (k o)
  | .setObj _ _ k => NM k
  | .choose _ k => ∀ n, NM (k n)
  | .sys _ k => ∀ r, NM (k r)
  | .program k => ∀ p, NM (k p)
  | .mark m k => okMark m ∧ NM k
/-- What is listed. -/
def okEv (e : Event) : Prop := e.loc ≠ .mark .disable ∧ e.loc ≠ .mark .enable
theorem NM.events {α : Type} {x : Sem α} (hx : NM x) (P : Program) : ∀ (w : World) (es : Array Event), (∀ e ∈ es, okEv e) → ∀ e ∈ x.events P w es, okEv e := by
  have push : ∀ (es : Array Event) (e' : Event), okEv e' → (∀ e ∈ es, okEv e) → ∀ e ∈ es.push e', okEv e := fun es e' h' h e he => by
    rcases Array.mem_push.1 he with he | rfl
    · exact h e he
    · exact h'
  have app : ∀ (es : Array Event) (l : List Addr) (wr sy : Bool), (∀ e ∈ es, okEv e) → ∀ e ∈ es ++ l.toArray.map (fun a => (⟨.cell a, wr, sy⟩ : Event)), okEv e := fun es l wr sy h e he => by
    rcases Array.mem_append.1 he with he | he
    · exact h e he
    · obtain ⟨a, _, rfl⟩ := Array.mem_map.1 he
      exact ⟨by simp, by simp⟩
  have c : ∀ a wr sy, okEv ⟨.cell a, wr, sy⟩ := fun _ _ _ => ⟨by simp, by simp⟩
  induction x with
  | pure a => intro w es h; exact h
  | halt a => intro w es h; exact h
  | load m a k ih =>
    intro w es h
    unfold Sem.events
    simp only [Sem.runT]
    split
    · exact ih _ (hx _) _ _ (push _ _ (c _ _ _) h)
    · split
      · exact ih _ (hx _) _ _ (app _ _ _ _ h)
      · exact h
  | store m a v k ih =>
    intro w es h
    unfold Sem.events
    cases v <;> simp only [Sem.runT] <;> first
      | exact h
      | (split <;> split <;> first
          | exact h
          | exact ih hx _ _ (push _ _ (c _ _ _) h)
          | exact ih hx _ _ (app _ _ _ _ h))
  | new o k ih => intro w es h; exact ih _ (hx _) _ _ h
  | shape r k ih => intro w es h; exact ih _ (hx _) _ _ h
  | freeze a n k ih => intro w es h; exact ih hx _ _ h
  | frozen a k ih => intro w es h; exact ih _ (hx _) _ _ h
  | getObj r k ih =>
    intro w es h
    unfold Sem.events
    simp only [Sem.runT]
    split
    · exact h
    · exact ih _ (hx _) _ _ (push _ _ ⟨by simp, by simp⟩ h)
    · exact h
  | setObj r o k ih =>
    intro w es h
    unfold Sem.events
    simp only [Sem.runT]
    split
    · exact h
    · exact ih hx _ _ (push _ _ ⟨by simp, by simp⟩ h)
    · exact h
  | choose q k ih =>
    intro w es h
    unfold Sem.events
    simp only [Sem.runT]
    split
    · exact ih _ (hx _) _ _ h
    · exact ih _ (hx _) _ _ h
  | sys s k ih => intro w es h; exact ih _ (hx _) _ _ (push _ _ ⟨by simp, by simp⟩ h)
  | program k ih => intro w es h; exact ih _ (hx _) _ _ h
  | mark m k ih => intro w es h; exact ih hx.2 _ _ (push _ _ ⟨fun e => hx.1.1 (by simpa using e), fun e => hx.1.2 (by simpa using e)⟩ h)
end Go.Proofs.Ytgeflnjjppgooaa

namespace Go.Proofs.Ytgeflnjjppgooaa
open Go
/-- How a block stands in a view, and in the world. -/
inductive BR (b : Nat) : Option Obj → Option Obj → Prop
  | same {x : Option Obj} (h : ∀ a t, x ≠ some (.view a t)) : BR b x x
  | view {a : Addr} {t : TypeId} : BR b (some (.view ⟨b, 0, none⟩ 0)) (some (.view a t))
  | dead {c : Array Value} {ty : TypeId} {z : Nat × Nat} : BR b (some (.cells #[] ty (0, 0))) (some (.cells c ty z))
  | fro {c : Array Value} {ty : TypeId} {z : Nat × Nat} : BR b (some (.cells c ty (0, c.size))) (some (.cells c ty z))
structure View (v w : World) : Prop where
  rest : w = { v with heap := w.heap }
  size : v.heap.size = w.heap.size
  blk : ∀ b : Nat, BR b v.heap[b]? w.heap[b]?
/-- A cell of the block may be written. -/
def Liv (v : World) (b : Nat) : Prop := ∃ c ty z, v.heap[b]? = some (.cells c ty z) ∧ c ≠ #[] ∧ z ≠ (0, c.size)
/-- .. may be read. -/
def Rdb (v : World) (b : Nat) : Prop := ∃ c ty z, v.heap[b]? = some (.cells c ty z) ∧ c ≠ #[]
theorem Liv.rdb {v : World} {b : Nat} (h : Liv v b) : Rdb v b := let ⟨c, ty, z, h1, h2, _⟩ := h; ⟨c, ty, z, h1, h2⟩
/-- A block that is no row of cells. -/
def Odd (v : World) (b : Nat) : Prop := ∃ o, v.heap[b]? = some o ∧ ∀ c ty z, o ≠ .cells c ty z
/-- What may be listed: v as it was ahead, B: the count of blocks behind. -/
def EvOk (v : World) (B : Nat) (e : Event) : Prop :=
  match e.loc with
  | .cell a => a.block < B ∧ (v.heap.size ≤ a.block ∨ (if e.write = true then Liv v a.block else Rdb v a.block))
  | .obj r => e.write = false ∧ r < B ∧ (v.heap.size ≤ r ∨ Odd v r)
  | .mark m => m = .noRoom ∨ ∃ f, m = .extern f
  | _ => False
structure Chg (v v' w w' : World) : Prop where
  view : View v' w'
  grow : v.heap.size ≤ v'.heap.size
  same : ∀ b : Nat, v.heap[b]? = w.heap[b]? → v'.heap[b]? = w'.heap[b]?
  keep : ∀ b : Nat, b < v.heap.size → ¬ Liv v b → v'.heap[b]? = v.heap[b]? ∧ w'.heap[b]? = w.heap[b]?
  odd : ∀ b : Nat, b < v.heap.size → (Odd v' b ↔ Odd v b)
  tape : v'.tape = v.tape
  os : v'.os = v.os
  output : v'.output = v.output
  kind : ∀ (b : Nat) c ty z, v.heap[b]? = some (.cells c ty z) → ∃ c' z', v'.heap[b]? = some (.cells c' ty z')
  stay : ∀ b, Liv v b → Liv v' b
section
variable {v v' v'' w w' w'' : World}
theorem View.at (h : View v w) (d : Nat) : View (v.at d) (w.at d) := ⟨by rw [h.rest]; rfl, h.size, h.blk⟩
theorem Chg.refl (h : View v w) : Chg v v w w := ⟨h, Nat.le_refl _, fun _ h => h, fun _ _ _ => ⟨rfl, rfl⟩, fun _ _ => Iff.rfl, rfl, rfl, rfl, fun _ c _ z h => ⟨c, z, h⟩, fun _ h => h⟩
theorem Chg.liv (h : Chg v v' w w') {b : Nat} (hb : b < v.heap.size) (hl : Liv v' b) : Liv v b := by
  refine Classical.byContradiction fun hn => hn ?_
  obtain ⟨c, ty, z, h1, h2, h3⟩ := hl
  exact ⟨c, ty, z, ((h.keep b hb hn).1.symm.trans h1), h2, h3⟩
theorem Chg.rdb (h : Chg v v' w w') {b : Nat} (hb : b < v.heap.size) (hl : Rdb v' b) : Rdb v b := by
  by_cases hn : Liv v b
  · exact hn.rdb
  · obtain ⟨c, ty, z, h1, h2⟩ := hl
    exact ⟨c, ty, z, ((h.keep b hb hn).1.symm.trans h1), h2⟩
theorem Chg.trans (h : Chg v v' w w') (k : Chg v' v'' w' w'') : Chg v v'' w w'' := by
  refine ⟨k.view, Nat.le_trans h.grow k.grow, fun b hb => k.same b (h.same b hb), fun b hb hn => ?_, fun b hb => (k.odd b (Nat.lt_of_lt_of_le hb h.grow)).trans (h.odd b hb), k.tape.trans h.tape, k.os.trans h.os, k.output.trans h.output, fun b c ty z hb => let ⟨_, _, h1⟩ := h.kind b c ty z hb; k.kind b _ ty _ h1, fun b hb => k.stay b (h.stay b hb)⟩
  have h1 := h.keep b hb hn
  have h2 := k.keep b (Nat.lt_of_lt_of_le hb h.grow) (fun hl => hn (h.liv hb hl))
  exact ⟨h2.1.trans h1.1, h2.2.trans h1.2⟩
theorem EvOk.mono {B B' : Nat} {e : Event} (h : EvOk v B e) (hB : B ≤ B') : EvOk v B' e := by
  unfold EvOk at h ⊢
  split <;> simp_all <;> omega
theorem EvOk.back (h : Chg v v' w w') {B : Nat} {e : Event} (he : EvOk v' B e) : EvOk v B e := by
  unfold EvOk at he ⊢
  split
  · rename_i a ha
    rw [ha] at he
    refine ⟨he.1, ?_⟩
    rcases Nat.lt_or_ge a.block v.heap.size with hlt | hge
    · refine .inr ?_
      rcases he.2 with h1 | h1
      · have := h.grow; omega
      · split at h1
        · rename_i hw; rw [if_pos hw]; exact h.liv hlt h1
        · rename_i hw; rw [if_neg hw]; exact h.rdb hlt h1
    · exact .inl hge
  · rename_i r hr
    rw [hr] at he
    refine ⟨he.1, he.2.1, ?_⟩
    rcases Nat.lt_or_ge r v.heap.size with hlt | hge
    · rcases he.2.2 with h1 | h1
      · have := h.grow; omega
      · exact .inr ((h.odd r hlt).1 h1)
    · exact .inl hge
  · rename_i m hm; rw [hm] at he; exact he
  · rename_i h1 h2 h3
    cases hl : e.loc <;> rw [hl] at he <;> first | exact he | exact absurd hl (h1 _) | exact absurd hl (h2 _) | exact absurd hl (h3 _)
end
/-- What runs in a view runs in the world. -/
def FR (P : Program) {α : Type} (x : Sem α) : Prop :=
  ∀ v w, View v w → ∀ a v', x.run P v = .ok a v' → ∃ w', x.run P w = .ok a w' ∧ Chg v v' w w' ∧ ∀ es, ∀ e ∈ x.events P w es, e ∈ es ∨ EvOk v v'.heap.size e
section
variable {P : Program} {α β : Type}
theorem FR.pure (a : α) : FR P (Pure.pure a : Sem α) := fun v w h b v' hr => by
  simp only [Sem.run_pure, Result.ok.injEq] at hr
  obtain ⟨rfl, rfl⟩ := hr
  exact ⟨w, by simp, .refl h, fun es e he => .inl (by simpa using he)⟩
theorem FR.halt (x : Halt) : FR P (.halt x : Sem α) := fun v w h b v' hr => by simp [Sem.run] at hr
theorem FR.bind {x : Sem α} {f : α → Sem β} (hx : FR P x) (hf : ∀ a, FR P (f a)) : FR P (x >>= f) := fun v w h b v' hr => by
  rw [Sem.run_bind] at hr
  cases hxr : x.run P v with
  | halt k u => rw [hxr] at hr; cases hr
  | ok a u =>
    rw [hxr] at hr
    simp only [Result.andThen_ok] at hr
    obtain ⟨w1, h1, h2, h3⟩ := hx v w h a u hxr
    obtain ⟨w2, k1, k2, k3⟩ := hf a u w1 h2.view b v' hr
    refine ⟨w2, by rw [Sem.run_bind, h1]; exact k1, h2.trans k2, fun es e he => ?_⟩
    rw [Sem.events_bind, h1, Result.evThen_ok] at he
    rcases k3 _ e he with he | he
    · rcases h3 _ e he with he | he
      · exact .inl he
      · exact .inr (he.mono k2.grow)
    · exact .inr (he.back h2)
theorem FR.map {x : Sem α} {f : α → β} (hx : FR P x) : FR P (f <$> x) := by
  have := FR.bind hx fun a => FR.pure (f a)
  exact this
theorem FR.ite {c : Prop} [Decidable c] {x y : Sem α} (hx : FR P x) (hy : FR P y) : FR P (if c then x else y) := by split <;> assumption
theorem FR.list {f : α → β → Sem (ForInStep β)} (hf : ∀ a b, FR P (f a b)) : ∀ (l : List α) (b : β), FR P (forIn l b f)
  | [], b => by simp only [List.forIn_nil]; exact FR.pure _
  | a :: l, b => by
    rw [List.forIn_cons]
    refine FR.bind (hf a b) fun s => ?_
    cases s with
    | done b => exact FR.pure _
    | yield b => exact FR.list hf l b
theorem FR.array {f : α → β → Sem (ForInStep β)} (hf : ∀ a b, FR P (f a b)) (l : Array α) (b : β) : FR P (forIn l b f) := by
  rw [← Array.forIn_toList]; exact FR.list hf _ _
theorem FR.listM {f : β → α → Sem β} (hf : ∀ b a, FR P (f b a)) : ∀ (l : List α) (b : β), FR P (l.foldlM f b)
  | [], b => FR.pure _
  | a :: l, b => by rw [List.foldlM_cons]; exact FR.bind (hf b a) fun c => FR.listM hf l c
theorem FR.range {f : Nat → β → Sem (ForInStep β)} (hf : ∀ a b, FR P (f a b)) (r : Std.Legacy.Range) (b : β) : FR P (forIn r b f) := by
  rw [Std.Legacy.Range.forIn_eq_forIn_range']; exact FR.list hf _ _
theorem FR.listMapM {f : α → Sem β} (hf : ∀ a, FR P (f a)) : ∀ l : List α, FR P (l.mapM f)
  | [] => FR.pure _
  | a :: l => by rw [List.mapM_cons]; exact FR.bind (hf a) fun _ => FR.bind (FR.listMapM hf l) fun _ => FR.pure _
theorem FR.arrayMapM {f : α → Sem β} (hf : ∀ a, FR P (f a)) (l : Array α) : FR P (l.mapM f) := by
  rw [Array.mapM_eq_mapM_toList]; exact FR.map (FR.listMapM hf _)
/-- It never comes to a value. -/
theorem FR.never {x : Sem α} (h : ∀ v a v', x.run P v ≠ .ok a v') : FR P x := fun v _ _ a v' hr => absurd hr (h v a v')
theorem never_bind {x : Sem α} {f : α → Sem β} (h : ∀ a v b v', (f a).run P v ≠ .ok b v') : ∀ v b v', (x >>= f).run P v ≠ .ok b v' := fun v b v' hr => by
  rw [Sem.run_bind] at hr
  cases hxr : x.run P v with
  | halt k u => rw [hxr] at hr; cases hr
  | ok a u => rw [hxr] at hr; exact h a u b v' hr
end
section
variable {P : Program} {v w : World}
theorem View.cell (h : View v w) {a : Addr} {x : Value} (hx : v.cell? a = some x) : w.cell? a = some x ∧ Rdb v a.block ∧ a.block < v.heap.size := by
  have hb := h.blk a.block
  unfold World.cell? at hx ⊢
  cases hv : v.heap[a.block]? with
  | none => rw [hv] at hx; cases hx
  | some o =>
    have hlt : a.block < v.heap.size := (Array.getElem?_eq_some_iff.1 hv).1
    rw [hv] at hx hb
    cases o <;> try cases hx
    rename_i c ty z
    simp only at hx
    split at hx
    · cases hx
    · rename_i hs
      have hc : c ≠ #[] := by rintro rfl; simp at hx
      refine ⟨?_, ⟨c, ty, z, hv, hc⟩, hlt⟩
      generalize w.heap[a.block]? = y at hb
      cases hb with
      | same _ => simp [hs, hx]
      | dead => simp at hx
      | fro => simp [hs, hx]
theorem seen_self {b : Nat} {at_ : Addr} {u : TypeId} (hb : v.heap[b]? = some (.view at_ u)) (u' : TypeId) (k : Addr) (atomic : Bool) : ∃ s, v.seen P ⟨b, 0, none⟩ u' k atomic = .error s := by
  unfold World.seen
  simp only [bind, Except.bind, hb]
  repeat (first | exact ⟨_, rfl⟩ | split)
theorem viewLoad_self {b : Nat} {at_ : Addr} {u : TypeId} (hb : v.heap[b]? = some (.view at_ u)) (u' : TypeId) (k : Addr) (atomic : Bool) : ∃ s, v.viewLoad P ⟨b, 0, none⟩ u' k atomic = .error s := by
  obtain ⟨s, hs⟩ := seen_self (P := P) hb u' k atomic
  unfold World.viewLoad
  rw [hs]
  exact ⟨_, rfl⟩
theorem viewStore_self {b : Nat} {at_ : Addr} {u : TypeId} (hb : v.heap[b]? = some (.view at_ u)) (u' : TypeId) (k : Addr) (x : Value) (atomic : Bool) : ∃ s, v.viewStore P ⟨b, 0, none⟩ u' k x atomic = .error s := by
  obtain ⟨s, hs⟩ := seen_self (P := P) hb u' k atomic
  unfold World.viewStore
  rw [hs]
  simp only [bind, Except.bind]
  repeat (first | exact ⟨_, rfl⟩ | split)
theorem View.far (h : View v w) (a : Addr) (b : Bool) : ∃ e, v.farLoad P a b = .error e := by
  unfold World.farLoad
  have hb := h.blk a.block
  split
  · rename_i at_ u hv
    rw [hv] at hb
    generalize w.heap[a.block]? = y at hb
    cases hb with
    | same hn => exact absurd rfl (hn _ _)
    | view =>
      obtain ⟨s, hs⟩ := viewLoad_self (P := P) hv 0 a b
      rw [hs]; exact ⟨_, rfl⟩
  · exact ⟨_, rfl⟩
theorem View.farS (h : View v w) (a : Addr) (x : Value) (b : Bool) : ∃ e, v.farStore P a x b = .error e := by
  unfold World.farStore
  have hb := h.blk a.block
  split
  · rename_i at_ u hv
    rw [hv] at hb
    generalize w.heap[a.block]? = y at hb
    cases hb with
    | same hn => exact absurd rfl (hn _ _)
    | view =>
      obtain ⟨s, hs⟩ := viewStore_self (P := P) hv 0 a x b
      rw [hs]; exact ⟨_, rfl⟩
  · exact ⟨_, rfl⟩
theorem fr_load (a : Addr) (m : Mode) : FR P (load a m) := fun v w h x v' hr => by
  unfold load at hr ⊢
  simp only [Sem.run] at hr ⊢
  cases hc : v.cell? a with
  | none =>
    rw [hc] at hr
    obtain ⟨e, he⟩ := h.far (P := P) a (m == .atomic)
    simp only [he] at hr
    cases hr
  | some y =>
    rw [hc] at hr
    simp only [Result.ok.injEq] at hr
    obtain ⟨rfl, rfl⟩ := hr
    obtain ⟨h1, h2, h3⟩ := h.cell hc
    refine ⟨w, by rw [h1], .refl h, fun es e he => ?_⟩
    simp only [Sem.events, Sem.runT, h1] at he
    rcases Array.mem_push.1 he with he | rfl
    · exact .inl he
    · exact .inr ⟨h3, .inr (by simpa using h2)⟩
theorem fr_newObj (o : Obj) (ho : ∀ a t, o ≠ .view a t) : FR P (newObj o) := fun v w h x v' hr => by
  unfold newObj at hr ⊢
  simp only [Sem.run, Result.ok.injEq] at hr ⊢
  obtain ⟨rfl, rfl⟩ := hr
  refine ⟨_, ⟨h.size.symm, rfl⟩, ⟨⟨by rw [h.rest], by simp [h.size], fun b => ?_⟩, by simp, fun b hb => ?_, fun b hb _ => ?_, fun b hb => ?_, rfl, rfl, rfl, fun b c ty z hb => ?_, fun b hb => ?_⟩, fun es e he => .inl he⟩
  · simp only [Array.getElem?_push, h.size]
    split
    · exact .same fun a t => by simpa using ho a t
    · exact h.blk b
  · simp only [Array.getElem?_push, h.size]
    split
    · rfl
    · exact hb
  · simp only [Array.getElem?_push, ← h.size]
    rw [if_neg (by omega)]
    exact ⟨rfl, by rw [if_neg (by omega)]⟩
  · simp only [Odd, Array.getElem?_push]
    rw [if_neg (by omega)]
  · have := (Array.getElem?_eq_some_iff.1 hb).1
    exact ⟨c, z, by rw [Array.getElem?_push, if_neg (by omega)]; exact hb⟩
  · obtain ⟨c, ty, z, h1, h2, h3⟩ := hb
    have := (Array.getElem?_eq_some_iff.1 h1).1
    exact ⟨c, ty, z, by rw [Array.getElem?_push, if_neg (by omega)]; exact h1, h2, h3⟩
theorem fr_choose (q : Question) : FR P (choose q) := fun v w h x v' hr => by
  unfold choose at hr ⊢
  simp only [Sem.run] at hr ⊢
  have e1 : w.tape = v.tape := by rw [h.rest]
  have e2 : w.drawn = v.drawn := by rw [h.rest]
  split at hr
  · rename_i hf
    simp only [Result.ok.injEq] at hr
    obtain ⟨rfl, rfl⟩ := hr
    exact ⟨w, by rw [if_pos hf], .refl h, fun es e he => .inl (by simpa [Sem.events, Sem.runT, hf] using he)⟩
  · rename_i hf
    simp only [Result.ok.injEq] at hr
    obtain ⟨rfl, rfl⟩ := hr
    refine ⟨{ w with drawn := w.drawn + 1 }, by rw [if_neg hf, e1, e2], ⟨⟨by rw [h.rest], h.size, h.blk⟩, Nat.le_refl _, fun _ h => h, fun _ _ _ => ⟨rfl, rfl⟩, fun _ _ => Iff.rfl, rfl, rfl, rfl, fun _ c _ z h => ⟨c, z, h⟩, fun _ h => h⟩, fun es e he => .inl (by simpa [Sem.events, Sem.runT, hf] using he)⟩
theorem fr_program : FR P program := fun v w h x v' hr => by
  unfold program at hr ⊢
  simp only [Sem.run, Result.ok.injEq] at hr ⊢
  obtain ⟨rfl, rfl⟩ := hr
  exact ⟨w, ⟨rfl, rfl⟩, .refl h, fun es e he => .inl he⟩
theorem fr_noRoom : FR P (mark .noRoom) := fun v w h x v' hr => by
  unfold mark at hr ⊢
  simp only [Sem.run, Result.ok.injEq] at hr ⊢
  obtain ⟨_, rfl⟩ := hr
  refine ⟨w, ⟨trivial, rfl⟩, .refl h, fun es e he => ?_⟩
  simp only [Sem.events, Sem.runT] at he
  rcases Array.mem_push.1 he with he | rfl
  · exact .inl he
  · exact .inr (.inl rfl)
theorem fr_stuck {α : Type} (s : String) : FR P (stuck s : Sem α) := FR.halt _
theorem fr_unsupported {α : Type} (s : Unsupported) : FR P (unsupported s : Sem α) := FR.halt _
theorem fr_goPanic {α : Type} (s : Value) : FR P (goPanic s : Sem α) := FR.halt _
theorem setCell_heap (w : World) (a : Addr) (x : Value) (b : Nat) : (w.setCell a x).heap[b]? = if a.block = b then (w.heap[b]?).map (fun o => match o with | .cells c t z => .cells (if a.spot.isSome = true then c else c.setIfInBounds a.off x) t z | o => o) else w.heap[b]? := by
  simp only [World.setCell, Array.getElem?_modify]
  rfl
theorem fr_store (a : Addr) (x : Value) (m : Mode) : FR P (store a x m) := fun v w h u v' hr => by
  unfold store at hr ⊢
  have key : ∀ y, (Sem.store m a y (.pure ())).run P v = .ok u v' → (∀ cs, y ≠ .agg cs) → (∀ cs, y ≠ .tuple cs) → ∃ w', (Sem.store m a y (.pure ())).run P w = .ok u w' ∧ Chg v v' w w' ∧ ∀ es, ∀ e ∈ (Sem.store m a y (.pure ()) : Sem Unit).events P w es, e ∈ es ∨ EvOk v v'.heap.size e := by
    intro y hr hy1 hy2
    have run : ∀ u : World, (Sem.store m a y (.pure ()) : Sem Unit).run P u = match u.cell? a with
        | some _ => if u.frozen? a then .halt (.unsupported (.unsafePointer "a write to bytes that a string shares")) u else .ok () (u.setCell a y)
        | none => match u.farStore P a y (m == .atomic) with
          | .ok (u, _) => .ok () u
          | .error h => .halt h u := by
      intro u
      cases y <;> first | exact absurd rfl (hy1 _) | exact absurd rfl (hy2 _) | (simp only [Sem.run]; rfl)
    rw [run] at hr
    cases hc : v.cell? a with
    | none =>
      rw [hc] at hr
      obtain ⟨e, he⟩ := h.farS (P := P) a y (m == .atomic)
      simp only [he] at hr
      cases hr
    | some y0 =>
      rw [hc] at hr
      simp only at hr
      split at hr
      · cases hr
      rename_i hfr
      simp only [Result.ok.injEq] at hr
      obtain ⟨_, rfl⟩ := hr
      obtain ⟨h1, ⟨c, ty, z, hv, hne⟩, h3⟩ := h.cell hc
      have hoff : a.off < c.size := by
        unfold World.cell? at hc
        rw [hv] at hc
        simp only at hc
        split at hc
        · cases hc
        · exact (Array.getElem?_eq_some_iff.1 hc).1
      have hz : z ≠ (0, c.size) := by
        rintro rfl
        apply hfr
        simp [World.frozen?, hv, hoff]
      have hl : Liv v a.block := ⟨c, ty, z, hv, hne, hz⟩
      have hw : w.heap[a.block]? = some (.cells c ty z) := by
        have hb := h.blk a.block
        rw [hv] at hb
        generalize w.heap[a.block]? = y at hb
        cases hb with
        | same _ => rfl
        | dead => exact absurd rfl hne
        | fro => exact absurd rfl hz
      have hfw : w.frozen? a = false := by
        have : w.frozen? a = v.frozen? a := by simp [World.frozen?, hv, hw]
        rw [this]; simpa using hfr
      refine ⟨w.setCell a y, by rw [run, h1]; simp [hfw], ⟨⟨by rw [h.rest]; rfl, by simp [World.setCell, h.size], fun b => ?_⟩, by simp [World.setCell], fun b hb => ?_, fun b hb hn => ?_, fun b hb => ?_, rfl, rfl, rfl, fun b c ty z hb => ?_, fun b hb => ?_⟩, fun es e he => ?_⟩
      · rw [setCell_heap, setCell_heap]
        split
        · rename_i hab
          subst hab
          rw [hv, hw]
          exact .same fun a t => by simp
        · exact h.blk b
      · rw [setCell_heap, setCell_heap, hb]
      · rw [setCell_heap, setCell_heap]
        have : a.block ≠ b := by rintro rfl; exact hn hl
        simp [this]
      · simp only [Odd, setCell_heap]
        split
        · rename_i hab
          subst hab
          rw [hv]
          constructor <;> (rintro ⟨o, ho, hn⟩; simp at ho; subst ho; exact absurd rfl (hn _ _ _))
        · rfl
      · rw [setCell_heap, hb]
        split
        · exact ⟨_, _, rfl⟩
        · exact ⟨_, _, rfl⟩
      · obtain ⟨c, ty, z, h1, h2, h3⟩ := hb
        unfold Liv
        rw [setCell_heap, h1]
        split
        · refine ⟨_, _, _, rfl, ?_, ?_⟩
          · split
            · exact h2
            · intro e; apply h2
              have := congrArg Array.size e
              simp at this
              exact this
          · split
            · exact h3
            · simpa using h3
        · exact ⟨_, _, _, rfl, h2, h3⟩
      · have ev : (Sem.store m a y (.pure ()) : Sem Unit).events P w es = es.push ⟨.cell a, true, m == .atomic⟩ := by
          cases y <;> first | exact absurd rfl (hy1 _) | exact absurd rfl (hy2 _) | (simp only [Sem.events, Sem.runT, h1, hfw]; rfl)
        rw [ev] at he
        rcases Array.mem_push.1 he with he | rfl
        · exact .inl he
        · exact .inr ⟨by simpa [World.setCell] using h3, .inr (by simpa using hl)⟩
  by_cases h1 : ∃ cs, x = .agg cs
  · obtain ⟨cs, rfl⟩ := h1
    simp [Sem.run] at hr
  by_cases h2 : ∃ cs, x = .tuple cs
  · obtain ⟨cs, rfl⟩ := h2
    simp [Sem.run] at hr
  exact key _ hr (fun cs h => h1 ⟨cs, h⟩) (fun cs h => h2 ⟨cs, h⟩)
/-- The shape of a block, where its length is not looked at. -/
theorem fr_shapeE {α : Type} {r : Nat} {k : Option (TypeId × Nat) → Sem α} (he : ∀ e n n', k (some (e, n)) = k (some (e, n'))) (hk : ∀ s, FR P (k s)) : FR P (shape r >>= k) := fun v w h a v' hr => by
  have run : ∀ u : World, (shape r >>= k).run P u = (k (u.shape? r)).run P u := fun _ => rfl
  have ev : ∀ (u : World) es, (shape r >>= k).events P u es = (k (u.shape? r)).events P u es := fun _ _ => rfl
  have heq : k (v.shape? r) = k (w.shape? r) := by
    have hb := h.blk r
    unfold World.shape?
    generalize v.heap[r]? = x at hb
    generalize w.heap[r]? = y at hb
    cases hb with
    | same _ => rfl
    | view => rfl
    | dead => exact he _ _ _
    | fro => rfl
  rw [run] at hr
  obtain ⟨w', h1, h2, h3⟩ := hk _ v w h a v' hr
  refine ⟨w', by rw [run, ← heq]; exact h1, h2, fun es e he => ?_⟩
  rw [ev, ← heq] at he
  exact h3 es e he
end
end Go.Proofs.Ytgeflnjjppgooaa

namespace Go.Proofs.Ytgeflnjjppgooaa
open Go
section
variable {P : Program}
theorem fr_getObj_bind {α : Type} {r : Nat} {k : Obj → Sem α} (hv : ∀ a t u b v', (k (.view a t)).run P u ≠ .ok b v') (hk : ∀ o, FR P (k o)) : FR P (getObj r >>= k) := fun v w h a v' hr => by
  have hb := h.blk r
  have run : ∀ u : World, (getObj r >>= k).run P u = match u.heap[r]? with
      | some (.cells ..) => .halt (.stuck "getObj: a row of cells") u
      | some o => (k o).run P u
      | none => .halt (.stuck "getObj: no such block") u := fun u => by
    show Sem.run P (Sem.getObj r fun o => k o) u = _
    simp only [Sem.run]
    cases u.heap[r]? with
    | none => rfl
    | some o => cases o <;> rfl
  rw [run] at hr
  cases hx : v.heap[r]? with
  | none => rw [hx] at hr; cases hr
  | some o =>
    rw [hx] at hr hb
    have hlt : r < v.heap.size := (Array.getElem?_eq_some_iff.1 hx).1
    by_cases hc : ∃ c ty z, o = .cells c ty z
    · obtain ⟨c, ty, z, rfl⟩ := hc; cases hr
    by_cases hvw : ∃ a t, o = .view a t
    · obtain ⟨a', t, rfl⟩ := hvw
      exact absurd hr (hv _ _ _ _ _)
    have hw : w.heap[r]? = some o := by
      generalize w.heap[r]? = y at hb
      cases hb with
      | same _ => rfl
      | view => exact absurd ⟨_, _, rfl⟩ hvw
      | dead => exact absurd ⟨_, _, _, rfl⟩ hc
      | fro => exact absurd ⟨_, _, _, rfl⟩ hc
    have hr' : (k o).run P v = .ok a v' := by cases o <;> first | exact absurd ⟨_, _, _, rfl⟩ hc | exact hr
    obtain ⟨w', h1, h2, h3⟩ := hk o v w h a v' hr'
    have hodd : Odd v r := ⟨o, hx, fun c ty z e => hc ⟨c, ty, z, e⟩⟩
    refine ⟨w', by rw [run, hw]; cases o <;> first | exact absurd ⟨_, _, _, rfl⟩ hc | exact h1, h2, fun es e he => ?_⟩
    have ev : (getObj r >>= k).events P w es = (k o).events P w (es.push ⟨.obj r, false, o.isChan⟩) := by
      rw [Sem.events_bind]
      cases o <;> first | exact absurd ⟨_, _, _, rfl⟩ hc | (simp only [getObj, Sem.run, hw, Result.evThen_ok]; simp only [Sem.events, Sem.runT, hw])
    rw [ev] at he
    rcases h3 _ e he with he | he
    · rcases Array.mem_push.1 he with he | rfl
      · exact .inl he
      · exact .inr ⟨rfl, Nat.lt_of_lt_of_le hlt h2.grow, .inr hodd⟩
    · exact .inr he
theorem fr_askRoom (n : Nat) : FR P (askRoom n) := by
  unfold askRoom
  split
  · exact fr_noRoom
  · exact FR.pure _
/-- .. where a view comes to nothing. -/
theorem fr_viewAt_bind {α : Type} {r : Nat} {k : Option (Addr × TypeId) → Sem α} (hv : ∀ x u b v', (k (some x)).run P u ≠ .ok b v') (hk : FR P (k none)) : FR P (viewAt r >>= k) := by
  have e : viewAt r >>= k = shape r >>= fun s => if s.isSome = true then k none else getObj r >>= fun o => match o with | .view a t => k (some (a, t)) | _ => k none := by
    show Sem.bind (viewAt r) k = Sem.bind (shape r) _
    unfold viewAt
    simp only [shape, Sem.bind, bind, Pure.pure, getObj]
    congr 1
    funext s
    split
    · rfl
    · simp only [Sem.bind]
      congr 1
      funext o
      cases o <;> rfl
  rw [e]
  refine fr_shapeE (fun _ _ _ => rfl) fun s => ?_
  split
  · exact hk
  · refine fr_getObj_bind (fun a t u b v' => hv _ _ _ _) fun o => ?_
    split
    · exact FR.never fun v a v' => hv _ _ _ _
    · exact hk
theorem fr_noView (a : Addr) : FR P (noView a) := by
  unfold noView
  refine fr_viewAt_bind (fun x u b v' h => ?_) (FR.pure _)
  simp [unsupported] at h
theorem fr_numberAt (r : Nat) : FR P (numberAt r) := by
  unfold numberAt
  refine fr_shapeE (fun _ _ _ => rfl) fun s => ?_
  split
  · exact FR.pure _
  · have key : ∀ f : Obj → Option (Addr × Bool), (∀ a t, f (.view a t) = none) → FR P (getObj r >>= fun o => (Pure.pure (f o) : Sem _)) := by
      intro f hf v w h a v' hr
      have run : ∀ u : World, (getObj r >>= fun o => (Pure.pure (f o) : Sem _)).run P u = match u.heap[r]? with
          | some (.cells ..) => .halt (.stuck "getObj: a row of cells") u
          | some o => .ok (f o) u
          | none => .halt (.stuck "getObj: no such block") u := fun u => by
        show Sem.run P (Sem.getObj r fun o => Sem.pure (f o)) u = _
        simp only [Sem.run]
        cases u.heap[r]? with
        | none => rfl
        | some o => cases o <;> rfl
      have hb := h.blk r
      rw [run] at hr
      cases hx : v.heap[r]? with
      | none => rw [hx] at hr; cases hr
      | some o =>
        rw [hx] at hr hb
        have hlt : r < v.heap.size := (Array.getElem?_eq_some_iff.1 hx).1
        by_cases hc : ∃ c ty z, o = .cells c ty z
        · obtain ⟨c, ty, z, rfl⟩ := hc; cases hr
        have hr' : Result.ok (f o) v = Result.ok a v' := by cases o <;> first | exact absurd ⟨_, _, _, rfl⟩ hc | exact hr
        simp only [Result.ok.injEq] at hr'
        obtain ⟨rfl, rfl⟩ := hr'
        have hodd : Odd v r := ⟨o, hx, fun c ty z e => hc ⟨c, ty, z, e⟩⟩
        obtain ⟨o', hw, hne, hf'⟩ : ∃ o', w.heap[r]? = some o' ∧ (∀ c ty z, o' ≠ .cells c ty z) ∧ f o' = f o := by
          generalize w.heap[r]? = y at hb
          cases hb with
          | same _ => exact ⟨o, rfl, fun c ty z e => hc ⟨c, ty, z, e⟩, rfl⟩
          | view => exact ⟨_, rfl, by simp, by rw [hf, hf]⟩
          | dead => exact absurd ⟨_, _, _, rfl⟩ hc
          | fro => exact absurd ⟨_, _, _, rfl⟩ hc
        refine ⟨w, by rw [run, hw]; cases o' <;> first | exact absurd rfl (hne _ _ _) | simp [hf'], .refl h, fun es e he => ?_⟩
        have ev : (getObj r >>= fun o => (Pure.pure (f o) : Sem _)).events P w es = es.push ⟨.obj r, false, o'.isChan⟩ := by
          rw [Sem.events_bind]
          cases o' <;> first | exact absurd rfl (hne _ _ _) | (simp only [getObj, Sem.run, hw, Result.evThen_ok, Sem.events_pure]; simp only [Sem.events, Sem.runT, hw])
        rw [ev] at he
        rcases Array.mem_push.1 he with he | rfl
        · exact .inl he
        · exact .inr ⟨rfl, hlt, .inr hodd⟩
    have := key (fun o => match o with | .number a lost => some (a, lost) | _ => none) (fun _ _ => rfl)
    refine Eq.mp (congrArg (FR P) ?_) this
    congr 1
    funext o
    cases o <;> rfl
theorem fr_newCells (c : Array Value) (t : TypeId) (z : Nat × Nat) : FR P (newObj (.cells c t z)) := fr_newObj _ (by simp)
theorem fr_newNumber (a : Addr) (l : Bool) : FR P (newObj (.number a l)) := fr_newObj _ (by simp)
theorem fr_asNumber (a : Addr) (l : Bool) : FR P (asNumber a l) := by
  unfold asNumber
  repeat first | with_reducible exact fr_newNumber .. | with_reducible exact fr_newCells .. | with_reducible exact fr_numberAt .. | with_reducible exact fr_noView .. | with_reducible exact fr_askRoom .. | with_reducible exact fr_goPanic .. | with_reducible exact fr_unsupported .. | with_reducible exact fr_stuck .. | with_reducible exact fr_noRoom .. | with_reducible exact fr_program .. | with_reducible exact fr_choose .. | with_reducible exact fr_store .. | with_reducible exact fr_load .. | with_reducible exact FR.pure _ | with_reducible exact FR.halt _ | with_reducible assumption | with_reducible refine fr_shapeE (fun _ _ _ => rfl) (fun _ => ?_) | with_reducible apply FR.map | with_reducible apply FR.bind | with_reducible apply FR.array | with_reducible apply FR.range | with_reducible apply FR.arrayMapM | with_reducible apply FR.list | with_reducible apply FR.listM | with_reducible refine FR.ite ?_ ?_ | split | with_reducible intro _ | (dsimp only)
theorem fr_behindNumber (a : Addr) : FR P (behindNumber a) := by
  unfold behindNumber
  repeat first | with_reducible exact fr_asNumber .. | with_reducible exact fr_newNumber .. | with_reducible exact fr_newCells .. | with_reducible exact fr_numberAt .. | with_reducible exact fr_noView .. | with_reducible exact fr_askRoom .. | with_reducible exact fr_goPanic .. | with_reducible exact fr_unsupported .. | with_reducible exact fr_stuck .. | with_reducible exact fr_noRoom .. | with_reducible exact fr_program .. | with_reducible exact fr_choose .. | with_reducible exact fr_store .. | with_reducible exact fr_load .. | with_reducible exact FR.pure _ | with_reducible exact FR.halt _ | with_reducible assumption | with_reducible refine fr_shapeE (fun _ _ _ => rfl) (fun _ => ?_) | with_reducible apply FR.map | with_reducible apply FR.bind | with_reducible apply FR.array | with_reducible apply FR.range | with_reducible apply FR.arrayMapM | with_reducible apply FR.list | with_reducible apply FR.listM | with_reducible refine FR.ite ?_ ?_ | split | with_reducible intro _ | (dsimp only)
theorem fr_typeInfo (t : TypeId) : FR P (typeInfo t) := by
  unfold typeInfo
  repeat first | with_reducible exact fr_behindNumber .. | with_reducible exact fr_asNumber .. | with_reducible exact fr_newNumber .. | with_reducible exact fr_newCells .. | with_reducible exact fr_numberAt .. | with_reducible exact fr_noView .. | with_reducible exact fr_askRoom .. | with_reducible exact fr_goPanic .. | with_reducible exact fr_unsupported .. | with_reducible exact fr_stuck .. | with_reducible exact fr_noRoom .. | with_reducible exact fr_program .. | with_reducible exact fr_choose .. | with_reducible exact fr_store .. | with_reducible exact fr_load .. | with_reducible exact FR.pure _ | with_reducible exact FR.halt _ | with_reducible assumption | with_reducible refine fr_shapeE (fun _ _ _ => rfl) (fun _ => ?_) | with_reducible apply FR.map | with_reducible apply FR.bind | with_reducible apply FR.array | with_reducible apply FR.range | with_reducible apply FR.arrayMapM | with_reducible apply FR.list | with_reducible apply FR.listM | with_reducible refine FR.ite ?_ ?_ | split | with_reducible intro _ | (dsimp only)
theorem fr_underlying (t : TypeId) : FR P (underlying t) := by
  unfold underlying
  repeat first | with_reducible exact fr_typeInfo .. | with_reducible exact fr_behindNumber .. | with_reducible exact fr_asNumber .. | with_reducible exact fr_newNumber .. | with_reducible exact fr_newCells .. | with_reducible exact fr_numberAt .. | with_reducible exact fr_noView .. | with_reducible exact fr_askRoom .. | with_reducible exact fr_goPanic .. | with_reducible exact fr_unsupported .. | with_reducible exact fr_stuck .. | with_reducible exact fr_noRoom .. | with_reducible exact fr_program .. | with_reducible exact fr_choose .. | with_reducible exact fr_store .. | with_reducible exact fr_load .. | with_reducible exact FR.pure _ | with_reducible exact FR.halt _ | with_reducible assumption | with_reducible refine fr_shapeE (fun _ _ _ => rfl) (fun _ => ?_) | with_reducible apply FR.map | with_reducible apply FR.bind | with_reducible apply FR.array | with_reducible apply FR.range | with_reducible apply FR.arrayMapM | with_reducible apply FR.list | with_reducible apply FR.listM | with_reducible refine FR.ite ?_ ?_ | split | with_reducible intro _ | (dsimp only)
theorem fr_typeStr (t : TypeId) : FR P (typeStr t) := by
  unfold typeStr
  repeat first | with_reducible exact fr_underlying .. | with_reducible exact fr_typeInfo .. | with_reducible exact fr_behindNumber .. | with_reducible exact fr_asNumber .. | with_reducible exact fr_newNumber .. | with_reducible exact fr_newCells .. | with_reducible exact fr_numberAt .. | with_reducible exact fr_noView .. | with_reducible exact fr_askRoom .. | with_reducible exact fr_goPanic .. | with_reducible exact fr_unsupported .. | with_reducible exact fr_stuck .. | with_reducible exact fr_noRoom .. | with_reducible exact fr_program .. | with_reducible exact fr_choose .. | with_reducible exact fr_store .. | with_reducible exact fr_load .. | with_reducible exact FR.pure _ | with_reducible exact FR.halt _ | with_reducible assumption | with_reducible refine fr_shapeE (fun _ _ _ => rfl) (fun _ => ?_) | with_reducible apply FR.map | with_reducible apply FR.bind | with_reducible apply FR.array | with_reducible apply FR.range | with_reducible apply FR.arrayMapM | with_reducible apply FR.list | with_reducible apply FR.listM | with_reducible refine FR.ite ?_ ?_ | split | with_reducible intro _ | (dsimp only)
theorem fr_zeroValue (t : TypeId) : FR P (zeroValue t) := by
  unfold zeroValue
  repeat first | with_reducible exact fr_typeStr .. | with_reducible exact fr_underlying .. | with_reducible exact fr_typeInfo .. | with_reducible exact fr_behindNumber .. | with_reducible exact fr_asNumber .. | with_reducible exact fr_newNumber .. | with_reducible exact fr_newCells .. | with_reducible exact fr_numberAt .. | with_reducible exact fr_noView .. | with_reducible exact fr_askRoom .. | with_reducible exact fr_goPanic .. | with_reducible exact fr_unsupported .. | with_reducible exact fr_stuck .. | with_reducible exact fr_noRoom .. | with_reducible exact fr_program .. | with_reducible exact fr_choose .. | with_reducible exact fr_store .. | with_reducible exact fr_load .. | with_reducible exact FR.pure _ | with_reducible exact FR.halt _ | with_reducible assumption | with_reducible refine fr_shapeE (fun _ _ _ => rfl) (fun _ => ?_) | with_reducible apply FR.map | with_reducible apply FR.bind | with_reducible apply FR.array | with_reducible apply FR.range | with_reducible apply FR.arrayMapM | with_reducible apply FR.list | with_reducible apply FR.listM | with_reducible refine FR.ite ?_ ?_ | split | with_reducible intro _ | (dsimp only)
theorem fr_sizeOf (t : TypeId) : FR P (sizeOf t) := by
  unfold sizeOf
  repeat first | with_reducible exact fr_zeroValue .. | with_reducible exact fr_typeStr .. | with_reducible exact fr_underlying .. | with_reducible exact fr_typeInfo .. | with_reducible exact fr_behindNumber .. | with_reducible exact fr_asNumber .. | with_reducible exact fr_newNumber .. | with_reducible exact fr_newCells .. | with_reducible exact fr_numberAt .. | with_reducible exact fr_noView .. | with_reducible exact fr_askRoom .. | with_reducible exact fr_goPanic .. | with_reducible exact fr_unsupported .. | with_reducible exact fr_stuck .. | with_reducible exact fr_noRoom .. | with_reducible exact fr_program .. | with_reducible exact fr_choose .. | with_reducible exact fr_store .. | with_reducible exact fr_load .. | with_reducible exact FR.pure _ | with_reducible exact FR.halt _ | with_reducible assumption | with_reducible refine fr_shapeE (fun _ _ _ => rfl) (fun _ => ?_) | with_reducible apply FR.map | with_reducible apply FR.bind | with_reducible apply FR.array | with_reducible apply FR.range | with_reducible apply FR.arrayMapM | with_reducible apply FR.list | with_reducible apply FR.listM | with_reducible refine FR.ite ?_ ?_ | split | with_reducible intro _ | (dsimp only)
theorem fr_isAgg (t : TypeId) : FR P (isAgg t) := by
  unfold isAgg
  repeat first | with_reducible exact fr_sizeOf .. | with_reducible exact fr_zeroValue .. | with_reducible exact fr_typeStr .. | with_reducible exact fr_underlying .. | with_reducible exact fr_typeInfo .. | with_reducible exact fr_behindNumber .. | with_reducible exact fr_asNumber .. | with_reducible exact fr_newNumber .. | with_reducible exact fr_newCells .. | with_reducible exact fr_numberAt .. | with_reducible exact fr_noView .. | with_reducible exact fr_askRoom .. | with_reducible exact fr_goPanic .. | with_reducible exact fr_unsupported .. | with_reducible exact fr_stuck .. | with_reducible exact fr_noRoom .. | with_reducible exact fr_program .. | with_reducible exact fr_choose .. | with_reducible exact fr_store .. | with_reducible exact fr_load .. | with_reducible exact FR.pure _ | with_reducible exact FR.halt _ | with_reducible assumption | with_reducible refine fr_shapeE (fun _ _ _ => rfl) (fun _ => ?_) | with_reducible apply FR.map | with_reducible apply FR.bind | with_reducible apply FR.array | with_reducible apply FR.range | with_reducible apply FR.arrayMapM | with_reducible apply FR.list | with_reducible apply FR.listM | with_reducible refine FR.ite ?_ ?_ | split | with_reducible intro _ | (dsimp only)
theorem fr_loadCellsFrom (a : Addr) : ∀ (n i : Nat) (acc : Array Value), FR P (loadCellsFrom a i n acc)
  | 0, _, _ => FR.pure _
  | n + 1, i, _ => FR.bind (fr_load _ _) fun _ => fr_loadCellsFrom a n (i + 1) _
theorem fr_storeCells (a : Addr) : ∀ (vs : List Value) (i : Nat), FR P (storeCells a vs i)
  | [], _ => FR.pure _
  | _ :: vs, i => FR.bind (fr_store _ _ _) fun _ => fr_storeCells a vs (i + 1)
theorem fr_loadCells (a : Addr) (n : Nat) : FR P (loadCells a n) := by
  unfold loadCells
  repeat first | with_reducible exact fr_storeCells .. | with_reducible exact fr_loadCellsFrom .. | with_reducible exact fr_isAgg .. | with_reducible exact fr_sizeOf .. | with_reducible exact fr_zeroValue .. | with_reducible exact fr_typeStr .. | with_reducible exact fr_underlying .. | with_reducible exact fr_typeInfo .. | with_reducible exact fr_behindNumber .. | with_reducible exact fr_asNumber .. | with_reducible exact fr_newNumber .. | with_reducible exact fr_newCells .. | with_reducible exact fr_numberAt .. | with_reducible exact fr_noView .. | with_reducible exact fr_askRoom .. | with_reducible exact fr_goPanic .. | with_reducible exact fr_unsupported .. | with_reducible exact fr_stuck .. | with_reducible exact fr_noRoom .. | with_reducible exact fr_program .. | with_reducible exact fr_choose .. | with_reducible exact fr_store .. | with_reducible exact fr_load .. | with_reducible exact FR.pure _ | with_reducible exact FR.halt _ | with_reducible assumption | with_reducible refine fr_shapeE (fun _ _ _ => rfl) (fun _ => ?_) | with_reducible apply FR.map | with_reducible apply FR.bind | with_reducible apply FR.array | with_reducible apply FR.range | with_reducible apply FR.arrayMapM | with_reducible apply FR.list | with_reducible apply FR.listM | with_reducible refine FR.ite ?_ ?_ | split | with_reducible intro _ | (dsimp only)
theorem fr_loadVar (t : TypeId) (a : Addr) : FR P (loadVar t a) := by
  unfold loadVar
  repeat first | with_reducible exact fr_loadCells .. | with_reducible exact fr_storeCells .. | with_reducible exact fr_loadCellsFrom .. | with_reducible exact fr_isAgg .. | with_reducible exact fr_sizeOf .. | with_reducible exact fr_zeroValue .. | with_reducible exact fr_typeStr .. | with_reducible exact fr_underlying .. | with_reducible exact fr_typeInfo .. | with_reducible exact fr_behindNumber .. | with_reducible exact fr_asNumber .. | with_reducible exact fr_newNumber .. | with_reducible exact fr_newCells .. | with_reducible exact fr_numberAt .. | with_reducible exact fr_noView .. | with_reducible exact fr_askRoom .. | with_reducible exact fr_goPanic .. | with_reducible exact fr_unsupported .. | with_reducible exact fr_stuck .. | with_reducible exact fr_noRoom .. | with_reducible exact fr_program .. | with_reducible exact fr_choose .. | with_reducible exact fr_store .. | with_reducible exact fr_load .. | with_reducible exact FR.pure _ | with_reducible exact FR.halt _ | with_reducible assumption | with_reducible refine fr_shapeE (fun _ _ _ => rfl) (fun _ => ?_) | with_reducible apply FR.map | with_reducible apply FR.bind | with_reducible apply FR.array | with_reducible apply FR.range | with_reducible apply FR.arrayMapM | with_reducible apply FR.list | with_reducible apply FR.listM | with_reducible refine FR.ite ?_ ?_ | split | with_reducible intro _ | (dsimp only)
theorem fr_storeVar (t : TypeId) (a : Addr) (v : Value) : FR P (storeVar t a v) := by
  unfold storeVar
  repeat first | with_reducible exact fr_loadVar .. | with_reducible exact fr_loadCells .. | with_reducible exact fr_storeCells .. | with_reducible exact fr_loadCellsFrom .. | with_reducible exact fr_isAgg .. | with_reducible exact fr_sizeOf .. | with_reducible exact fr_zeroValue .. | with_reducible exact fr_typeStr .. | with_reducible exact fr_underlying .. | with_reducible exact fr_typeInfo .. | with_reducible exact fr_behindNumber .. | with_reducible exact fr_asNumber .. | with_reducible exact fr_newNumber .. | with_reducible exact fr_newCells .. | with_reducible exact fr_numberAt .. | with_reducible exact fr_noView .. | with_reducible exact fr_askRoom .. | with_reducible exact fr_goPanic .. | with_reducible exact fr_unsupported .. | with_reducible exact fr_stuck .. | with_reducible exact fr_noRoom .. | with_reducible exact fr_program .. | with_reducible exact fr_choose .. | with_reducible exact fr_store .. | with_reducible exact fr_load .. | with_reducible exact FR.pure _ | with_reducible exact FR.halt _ | with_reducible assumption | with_reducible refine fr_shapeE (fun _ _ _ => rfl) (fun _ => ?_) | with_reducible apply FR.map | with_reducible apply FR.bind | with_reducible apply FR.array | with_reducible apply FR.range | with_reducible apply FR.arrayMapM | with_reducible apply FR.list | with_reducible apply FR.listM | with_reducible refine FR.ite ?_ ?_ | split | with_reducible intro _ | (dsimp only)
theorem fr_newRow (t : TypeId) (c : Array Value) : FR P (newRow t c) := by
  unfold newRow
  repeat first | with_reducible exact fr_storeVar .. | with_reducible exact fr_loadVar .. | with_reducible exact fr_loadCells .. | with_reducible exact fr_storeCells .. | with_reducible exact fr_loadCellsFrom .. | with_reducible exact fr_isAgg .. | with_reducible exact fr_sizeOf .. | with_reducible exact fr_zeroValue .. | with_reducible exact fr_typeStr .. | with_reducible exact fr_underlying .. | with_reducible exact fr_typeInfo .. | with_reducible exact fr_behindNumber .. | with_reducible exact fr_asNumber .. | with_reducible exact fr_newNumber .. | with_reducible exact fr_newCells .. | with_reducible exact fr_numberAt .. | with_reducible exact fr_noView .. | with_reducible exact fr_askRoom .. | with_reducible exact fr_goPanic .. | with_reducible exact fr_unsupported .. | with_reducible exact fr_stuck .. | with_reducible exact fr_noRoom .. | with_reducible exact fr_program .. | with_reducible exact fr_choose .. | with_reducible exact fr_store .. | with_reducible exact fr_load .. | with_reducible exact FR.pure _ | with_reducible exact FR.halt _ | with_reducible assumption | with_reducible refine fr_shapeE (fun _ _ _ => rfl) (fun _ => ?_) | with_reducible apply FR.map | with_reducible apply FR.bind | with_reducible apply FR.array | with_reducible apply FR.range | with_reducible apply FR.arrayMapM | with_reducible apply FR.list | with_reducible apply FR.listM | with_reducible refine FR.ite ?_ ?_ | split | with_reducible intro _ | (dsimp only)
theorem fr_newVar (t : TypeId) (v : Value) : FR P (newVar t v) := by
  unfold newVar
  repeat first | with_reducible exact fr_newRow .. | with_reducible exact fr_storeVar .. | with_reducible exact fr_loadVar .. | with_reducible exact fr_loadCells .. | with_reducible exact fr_storeCells .. | with_reducible exact fr_loadCellsFrom .. | with_reducible exact fr_isAgg .. | with_reducible exact fr_sizeOf .. | with_reducible exact fr_zeroValue .. | with_reducible exact fr_typeStr .. | with_reducible exact fr_underlying .. | with_reducible exact fr_typeInfo .. | with_reducible exact fr_behindNumber .. | with_reducible exact fr_asNumber .. | with_reducible exact fr_newNumber .. | with_reducible exact fr_newCells .. | with_reducible exact fr_numberAt .. | with_reducible exact fr_noView .. | with_reducible exact fr_askRoom .. | with_reducible exact fr_goPanic .. | with_reducible exact fr_unsupported .. | with_reducible exact fr_stuck .. | with_reducible exact fr_noRoom .. | with_reducible exact fr_program .. | with_reducible exact fr_choose .. | with_reducible exact fr_store .. | with_reducible exact fr_load .. | with_reducible exact FR.pure _ | with_reducible exact FR.halt _ | with_reducible assumption | with_reducible refine fr_shapeE (fun _ _ _ => rfl) (fun _ => ?_) | with_reducible apply FR.map | with_reducible apply FR.bind | with_reducible apply FR.array | with_reducible apply FR.range | with_reducible apply FR.arrayMapM | with_reducible apply FR.list | with_reducible apply FR.listM | with_reducible refine FR.ite ?_ ?_ | split | with_reducible intro _ | (dsimp only)
theorem fr_elemOf (t : TypeId) : FR P (elemOf t) := by
  unfold elemOf
  repeat first | with_reducible exact fr_newVar .. | with_reducible exact fr_newRow .. | with_reducible exact fr_storeVar .. | with_reducible exact fr_loadVar .. | with_reducible exact fr_loadCells .. | with_reducible exact fr_storeCells .. | with_reducible exact fr_loadCellsFrom .. | with_reducible exact fr_isAgg .. | with_reducible exact fr_sizeOf .. | with_reducible exact fr_zeroValue .. | with_reducible exact fr_typeStr .. | with_reducible exact fr_underlying .. | with_reducible exact fr_typeInfo .. | with_reducible exact fr_behindNumber .. | with_reducible exact fr_asNumber .. | with_reducible exact fr_newNumber .. | with_reducible exact fr_newCells .. | with_reducible exact fr_numberAt .. | with_reducible exact fr_noView .. | with_reducible exact fr_askRoom .. | with_reducible exact fr_goPanic .. | with_reducible exact fr_unsupported .. | with_reducible exact fr_stuck .. | with_reducible exact fr_noRoom .. | with_reducible exact fr_program .. | with_reducible exact fr_choose .. | with_reducible exact fr_store .. | with_reducible exact fr_load .. | with_reducible exact FR.pure _ | with_reducible exact FR.halt _ | with_reducible assumption | with_reducible refine fr_shapeE (fun _ _ _ => rfl) (fun _ => ?_) | with_reducible apply FR.map | with_reducible apply FR.bind | with_reducible apply FR.array | with_reducible apply FR.range | with_reducible apply FR.arrayMapM | with_reducible apply FR.list | with_reducible apply FR.listM | with_reducible refine FR.ite ?_ ?_ | split | with_reducible intro _ | (dsimp only)
theorem fr_part (t : TypeId) (c : Array Value) (o : Nat) : FR P (part t c o) := by
  unfold part
  repeat first | with_reducible exact fr_elemOf .. | with_reducible exact fr_newVar .. | with_reducible exact fr_newRow .. | with_reducible exact fr_storeVar .. | with_reducible exact fr_loadVar .. | with_reducible exact fr_loadCells .. | with_reducible exact fr_storeCells .. | with_reducible exact fr_loadCellsFrom .. | with_reducible exact fr_isAgg .. | with_reducible exact fr_sizeOf .. | with_reducible exact fr_zeroValue .. | with_reducible exact fr_typeStr .. | with_reducible exact fr_underlying .. | with_reducible exact fr_typeInfo .. | with_reducible exact fr_behindNumber .. | with_reducible exact fr_asNumber .. | with_reducible exact fr_newNumber .. | with_reducible exact fr_newCells .. | with_reducible exact fr_numberAt .. | with_reducible exact fr_noView .. | with_reducible exact fr_askRoom .. | with_reducible exact fr_goPanic .. | with_reducible exact fr_unsupported .. | with_reducible exact fr_stuck .. | with_reducible exact fr_noRoom .. | with_reducible exact fr_program .. | with_reducible exact fr_choose .. | with_reducible exact fr_store .. | with_reducible exact fr_load .. | with_reducible exact FR.pure _ | with_reducible exact FR.halt _ | with_reducible assumption | with_reducible refine fr_shapeE (fun _ _ _ => rfl) (fun _ => ?_) | with_reducible apply FR.map | with_reducible apply FR.bind | with_reducible apply FR.array | with_reducible apply FR.range | with_reducible apply FR.arrayMapM | with_reducible apply FR.list | with_reducible apply FR.listM | with_reducible refine FR.ite ?_ ?_ | split | with_reducible intro _ | (dsimp only)
theorem fr_runtimePanic {α : Type} (e : RuntimeError) : FR P (runtimePanic e : Sem α) := by
  unfold runtimePanic
  repeat first | with_reducible exact fr_part .. | with_reducible exact fr_elemOf .. | with_reducible exact fr_newVar .. | with_reducible exact fr_newRow .. | with_reducible exact fr_storeVar .. | with_reducible exact fr_loadVar .. | with_reducible exact fr_loadCells .. | with_reducible exact fr_storeCells .. | with_reducible exact fr_loadCellsFrom .. | with_reducible exact fr_isAgg .. | with_reducible exact fr_sizeOf .. | with_reducible exact fr_zeroValue .. | with_reducible exact fr_typeStr .. | with_reducible exact fr_underlying .. | with_reducible exact fr_typeInfo .. | with_reducible exact fr_behindNumber .. | with_reducible exact fr_asNumber .. | with_reducible exact fr_newNumber .. | with_reducible exact fr_newCells .. | with_reducible exact fr_numberAt .. | with_reducible exact fr_noView .. | with_reducible exact fr_askRoom .. | with_reducible exact fr_goPanic .. | with_reducible exact fr_unsupported .. | with_reducible exact fr_stuck .. | with_reducible exact fr_noRoom .. | with_reducible exact fr_program .. | with_reducible exact fr_choose .. | with_reducible exact fr_store .. | with_reducible exact fr_load .. | with_reducible exact FR.pure _ | with_reducible exact FR.halt _ | with_reducible assumption | with_reducible refine fr_shapeE (fun _ _ _ => rfl) (fun _ => ?_) | with_reducible apply FR.map | with_reducible apply FR.bind | with_reducible apply FR.array | with_reducible apply FR.range | with_reducible apply FR.arrayMapM | with_reducible apply FR.list | with_reducible apply FR.listM | with_reducible refine FR.ite ?_ ?_ | split | with_reducible intro _ | (dsimp only)
theorem fr_boundsPanic {α : Type} (k : IntKind) (x y : Int) (c : BoundsCode) : FR P (boundsPanic k x y c : Sem α) := by
  unfold boundsPanic
  repeat first | with_reducible exact fr_runtimePanic .. | with_reducible exact fr_part .. | with_reducible exact fr_elemOf .. | with_reducible exact fr_newVar .. | with_reducible exact fr_newRow .. | with_reducible exact fr_storeVar .. | with_reducible exact fr_loadVar .. | with_reducible exact fr_loadCells .. | with_reducible exact fr_storeCells .. | with_reducible exact fr_loadCellsFrom .. | with_reducible exact fr_isAgg .. | with_reducible exact fr_sizeOf .. | with_reducible exact fr_zeroValue .. | with_reducible exact fr_typeStr .. | with_reducible exact fr_underlying .. | with_reducible exact fr_typeInfo .. | with_reducible exact fr_behindNumber .. | with_reducible exact fr_asNumber .. | with_reducible exact fr_newNumber .. | with_reducible exact fr_newCells .. | with_reducible exact fr_numberAt .. | with_reducible exact fr_noView .. | with_reducible exact fr_askRoom .. | with_reducible exact fr_goPanic .. | with_reducible exact fr_unsupported .. | with_reducible exact fr_stuck .. | with_reducible exact fr_noRoom .. | with_reducible exact fr_program .. | with_reducible exact fr_choose .. | with_reducible exact fr_store .. | with_reducible exact fr_load .. | with_reducible exact FR.pure _ | with_reducible exact FR.halt _ | with_reducible assumption | with_reducible refine fr_shapeE (fun _ _ _ => rfl) (fun _ => ?_) | with_reducible apply FR.map | with_reducible apply FR.bind | with_reducible apply FR.array | with_reducible apply FR.range | with_reducible apply FR.arrayMapM | with_reducible apply FR.list | with_reducible apply FR.listM | with_reducible refine FR.ite ?_ ?_ | split | with_reducible intro _ | (dsimp only)
theorem fr_asIntOf (v : Value) : FR P (asIntOf v) := by
  unfold asIntOf
  repeat first | with_reducible exact fr_boundsPanic .. | with_reducible exact fr_runtimePanic .. | with_reducible exact fr_part .. | with_reducible exact fr_elemOf .. | with_reducible exact fr_newVar .. | with_reducible exact fr_newRow .. | with_reducible exact fr_storeVar .. | with_reducible exact fr_loadVar .. | with_reducible exact fr_loadCells .. | with_reducible exact fr_storeCells .. | with_reducible exact fr_loadCellsFrom .. | with_reducible exact fr_isAgg .. | with_reducible exact fr_sizeOf .. | with_reducible exact fr_zeroValue .. | with_reducible exact fr_typeStr .. | with_reducible exact fr_underlying .. | with_reducible exact fr_typeInfo .. | with_reducible exact fr_behindNumber .. | with_reducible exact fr_asNumber .. | with_reducible exact fr_newNumber .. | with_reducible exact fr_newCells .. | with_reducible exact fr_numberAt .. | with_reducible exact fr_noView .. | with_reducible exact fr_askRoom .. | with_reducible exact fr_goPanic .. | with_reducible exact fr_unsupported .. | with_reducible exact fr_stuck .. | with_reducible exact fr_noRoom .. | with_reducible exact fr_program .. | with_reducible exact fr_choose .. | with_reducible exact fr_store .. | with_reducible exact fr_load .. | with_reducible exact FR.pure _ | with_reducible exact FR.halt _ | with_reducible assumption | with_reducible refine fr_shapeE (fun _ _ _ => rfl) (fun _ => ?_) | with_reducible apply FR.map | with_reducible apply FR.bind | with_reducible apply FR.array | with_reducible apply FR.range | with_reducible apply FR.arrayMapM | with_reducible apply FR.list | with_reducible apply FR.listM | with_reducible refine FR.ite ?_ ?_ | split | with_reducible intro _ | (dsimp only)
theorem fr_asInt (v : Value) : FR P (asInt v) := by
  unfold asInt
  repeat first | with_reducible exact fr_asIntOf .. | with_reducible exact fr_boundsPanic .. | with_reducible exact fr_runtimePanic .. | with_reducible exact fr_part .. | with_reducible exact fr_elemOf .. | with_reducible exact fr_newVar .. | with_reducible exact fr_newRow .. | with_reducible exact fr_storeVar .. | with_reducible exact fr_loadVar .. | with_reducible exact fr_loadCells .. | with_reducible exact fr_storeCells .. | with_reducible exact fr_loadCellsFrom .. | with_reducible exact fr_isAgg .. | with_reducible exact fr_sizeOf .. | with_reducible exact fr_zeroValue .. | with_reducible exact fr_typeStr .. | with_reducible exact fr_underlying .. | with_reducible exact fr_typeInfo .. | with_reducible exact fr_behindNumber .. | with_reducible exact fr_asNumber .. | with_reducible exact fr_newNumber .. | with_reducible exact fr_newCells .. | with_reducible exact fr_numberAt .. | with_reducible exact fr_noView .. | with_reducible exact fr_askRoom .. | with_reducible exact fr_goPanic .. | with_reducible exact fr_unsupported .. | with_reducible exact fr_stuck .. | with_reducible exact fr_noRoom .. | with_reducible exact fr_program .. | with_reducible exact fr_choose .. | with_reducible exact fr_store .. | with_reducible exact fr_load .. | with_reducible exact FR.pure _ | with_reducible exact FR.halt _ | with_reducible assumption | with_reducible refine fr_shapeE (fun _ _ _ => rfl) (fun _ => ?_) | with_reducible apply FR.map | with_reducible apply FR.bind | with_reducible apply FR.array | with_reducible apply FR.range | with_reducible apply FR.arrayMapM | with_reducible apply FR.list | with_reducible apply FR.listM | with_reducible refine FR.ite ?_ ?_ | split | with_reducible intro _ | (dsimp only)
theorem fr_asBool (v : Value) : FR P (asBool v) := by
  unfold asBool
  repeat first | with_reducible exact fr_asInt .. | with_reducible exact fr_asIntOf .. | with_reducible exact fr_boundsPanic .. | with_reducible exact fr_runtimePanic .. | with_reducible exact fr_part .. | with_reducible exact fr_elemOf .. | with_reducible exact fr_newVar .. | with_reducible exact fr_newRow .. | with_reducible exact fr_storeVar .. | with_reducible exact fr_loadVar .. | with_reducible exact fr_loadCells .. | with_reducible exact fr_storeCells .. | with_reducible exact fr_loadCellsFrom .. | with_reducible exact fr_isAgg .. | with_reducible exact fr_sizeOf .. | with_reducible exact fr_zeroValue .. | with_reducible exact fr_typeStr .. | with_reducible exact fr_underlying .. | with_reducible exact fr_typeInfo .. | with_reducible exact fr_behindNumber .. | with_reducible exact fr_asNumber .. | with_reducible exact fr_newNumber .. | with_reducible exact fr_newCells .. | with_reducible exact fr_numberAt .. | with_reducible exact fr_noView .. | with_reducible exact fr_askRoom .. | with_reducible exact fr_goPanic .. | with_reducible exact fr_unsupported .. | with_reducible exact fr_stuck .. | with_reducible exact fr_noRoom .. | with_reducible exact fr_program .. | with_reducible exact fr_choose .. | with_reducible exact fr_store .. | with_reducible exact fr_load .. | with_reducible exact FR.pure _ | with_reducible exact FR.halt _ | with_reducible assumption | with_reducible refine fr_shapeE (fun _ _ _ => rfl) (fun _ => ?_) | with_reducible apply FR.map | with_reducible apply FR.bind | with_reducible apply FR.array | with_reducible apply FR.range | with_reducible apply FR.arrayMapM | with_reducible apply FR.list | with_reducible apply FR.listM | with_reducible refine FR.ite ?_ ?_ | split | with_reducible intro _ | (dsimp only)
theorem fr_asAddr (v : Value) : FR P (asAddr v) := by
  unfold asAddr
  repeat first | with_reducible exact fr_asBool .. | with_reducible exact fr_asInt .. | with_reducible exact fr_asIntOf .. | with_reducible exact fr_boundsPanic .. | with_reducible exact fr_runtimePanic .. | with_reducible exact fr_part .. | with_reducible exact fr_elemOf .. | with_reducible exact fr_newVar .. | with_reducible exact fr_newRow .. | with_reducible exact fr_storeVar .. | with_reducible exact fr_loadVar .. | with_reducible exact fr_loadCells .. | with_reducible exact fr_storeCells .. | with_reducible exact fr_loadCellsFrom .. | with_reducible exact fr_isAgg .. | with_reducible exact fr_sizeOf .. | with_reducible exact fr_zeroValue .. | with_reducible exact fr_typeStr .. | with_reducible exact fr_underlying .. | with_reducible exact fr_typeInfo .. | with_reducible exact fr_behindNumber .. | with_reducible exact fr_asNumber .. | with_reducible exact fr_newNumber .. | with_reducible exact fr_newCells .. | with_reducible exact fr_numberAt .. | with_reducible exact fr_noView .. | with_reducible exact fr_askRoom .. | with_reducible exact fr_goPanic .. | with_reducible exact fr_unsupported .. | with_reducible exact fr_stuck .. | with_reducible exact fr_noRoom .. | with_reducible exact fr_program .. | with_reducible exact fr_choose .. | with_reducible exact fr_store .. | with_reducible exact fr_load .. | with_reducible exact FR.pure _ | with_reducible exact FR.halt _ | with_reducible assumption | with_reducible refine fr_shapeE (fun _ _ _ => rfl) (fun _ => ?_) | with_reducible apply FR.map | with_reducible apply FR.bind | with_reducible apply FR.array | with_reducible apply FR.range | with_reducible apply FR.arrayMapM | with_reducible apply FR.list | with_reducible apply FR.listM | with_reducible refine FR.ite ?_ ?_ | split | with_reducible intro _ | (dsimp only)
theorem fr_sureAddr (v : Value) : FR P (Instr.sureAddr v) := by
  unfold Instr.sureAddr
  repeat first | with_reducible exact fr_asAddr .. | with_reducible exact fr_asBool .. | with_reducible exact fr_asInt .. | with_reducible exact fr_asIntOf .. | with_reducible exact fr_boundsPanic .. | with_reducible exact fr_runtimePanic .. | with_reducible exact fr_part .. | with_reducible exact fr_elemOf .. | with_reducible exact fr_newVar .. | with_reducible exact fr_newRow .. | with_reducible exact fr_storeVar .. | with_reducible exact fr_loadVar .. | with_reducible exact fr_loadCells .. | with_reducible exact fr_storeCells .. | with_reducible exact fr_loadCellsFrom .. | with_reducible exact fr_isAgg .. | with_reducible exact fr_sizeOf .. | with_reducible exact fr_zeroValue .. | with_reducible exact fr_typeStr .. | with_reducible exact fr_underlying .. | with_reducible exact fr_typeInfo .. | with_reducible exact fr_behindNumber .. | with_reducible exact fr_asNumber .. | with_reducible exact fr_newNumber .. | with_reducible exact fr_newCells .. | with_reducible exact fr_numberAt .. | with_reducible exact fr_noView .. | with_reducible exact fr_askRoom .. | with_reducible exact fr_goPanic .. | with_reducible exact fr_unsupported .. | with_reducible exact fr_stuck .. | with_reducible exact fr_noRoom .. | with_reducible exact fr_program .. | with_reducible exact fr_choose .. | with_reducible exact fr_store .. | with_reducible exact fr_load .. | with_reducible exact FR.pure _ | with_reducible exact FR.halt _ | with_reducible assumption | with_reducible refine fr_shapeE (fun _ _ _ => rfl) (fun _ => ?_) | with_reducible apply FR.map | with_reducible apply FR.bind | with_reducible apply FR.array | with_reducible apply FR.range | with_reducible apply FR.arrayMapM | with_reducible apply FR.list | with_reducible apply FR.listM | with_reducible refine FR.ite ?_ ?_ | split | with_reducible intro _ | (dsimp only)
theorem fr_loadAt (t : TypeId) (v : Value) : FR P (Instr.loadAt t v) := by
  unfold Instr.loadAt
  repeat first | with_reducible exact fr_sureAddr .. | with_reducible exact fr_asAddr .. | with_reducible exact fr_asBool .. | with_reducible exact fr_asInt .. | with_reducible exact fr_asIntOf .. | with_reducible exact fr_boundsPanic .. | with_reducible exact fr_runtimePanic .. | with_reducible exact fr_part .. | with_reducible exact fr_elemOf .. | with_reducible exact fr_newVar .. | with_reducible exact fr_newRow .. | with_reducible exact fr_storeVar .. | with_reducible exact fr_loadVar .. | with_reducible exact fr_loadCells .. | with_reducible exact fr_storeCells .. | with_reducible exact fr_loadCellsFrom .. | with_reducible exact fr_isAgg .. | with_reducible exact fr_sizeOf .. | with_reducible exact fr_zeroValue .. | with_reducible exact fr_typeStr .. | with_reducible exact fr_underlying .. | with_reducible exact fr_typeInfo .. | with_reducible exact fr_behindNumber .. | with_reducible exact fr_asNumber .. | with_reducible exact fr_newNumber .. | with_reducible exact fr_newCells .. | with_reducible exact fr_numberAt .. | with_reducible exact fr_noView .. | with_reducible exact fr_askRoom .. | with_reducible exact fr_goPanic .. | with_reducible exact fr_unsupported .. | with_reducible exact fr_stuck .. | with_reducible exact fr_noRoom .. | with_reducible exact fr_program .. | with_reducible exact fr_choose .. | with_reducible exact fr_store .. | with_reducible exact fr_load .. | with_reducible exact FR.pure _ | with_reducible exact FR.halt _ | with_reducible assumption | with_reducible refine fr_shapeE (fun _ _ _ => rfl) (fun _ => ?_) | with_reducible apply FR.map | with_reducible apply FR.bind | with_reducible apply FR.array | with_reducible apply FR.range | with_reducible apply FR.arrayMapM | with_reducible apply FR.list | with_reducible apply FR.listM | with_reducible refine FR.ite ?_ ?_ | split | with_reducible intro _ | (dsimp only)
theorem fr_storeAt (t : TypeId) (v x : Value) : FR P (Instr.storeAt t v x) := by
  unfold Instr.storeAt
  repeat first | with_reducible exact fr_loadAt .. | with_reducible exact fr_sureAddr .. | with_reducible exact fr_asAddr .. | with_reducible exact fr_asBool .. | with_reducible exact fr_asInt .. | with_reducible exact fr_asIntOf .. | with_reducible exact fr_boundsPanic .. | with_reducible exact fr_runtimePanic .. | with_reducible exact fr_part .. | with_reducible exact fr_elemOf .. | with_reducible exact fr_newVar .. | with_reducible exact fr_newRow .. | with_reducible exact fr_storeVar .. | with_reducible exact fr_loadVar .. | with_reducible exact fr_loadCells .. | with_reducible exact fr_storeCells .. | with_reducible exact fr_loadCellsFrom .. | with_reducible exact fr_isAgg .. | with_reducible exact fr_sizeOf .. | with_reducible exact fr_zeroValue .. | with_reducible exact fr_typeStr .. | with_reducible exact fr_underlying .. | with_reducible exact fr_typeInfo .. | with_reducible exact fr_behindNumber .. | with_reducible exact fr_asNumber .. | with_reducible exact fr_newNumber .. | with_reducible exact fr_newCells .. | with_reducible exact fr_numberAt .. | with_reducible exact fr_noView .. | with_reducible exact fr_askRoom .. | with_reducible exact fr_goPanic .. | with_reducible exact fr_unsupported .. | with_reducible exact fr_stuck .. | with_reducible exact fr_noRoom .. | with_reducible exact fr_program .. | with_reducible exact fr_choose .. | with_reducible exact fr_store .. | with_reducible exact fr_load .. | with_reducible exact FR.pure _ | with_reducible exact FR.halt _ | with_reducible assumption | with_reducible refine fr_shapeE (fun _ _ _ => rfl) (fun _ => ?_) | with_reducible apply FR.map | with_reducible apply FR.bind | with_reducible apply FR.array | with_reducible apply FR.range | with_reducible apply FR.arrayMapM | with_reducible apply FR.list | with_reducible apply FR.listM | with_reducible refine FR.ite ?_ ?_ | split | with_reducible intro _ | (dsimp only)
theorem fr_alloc (t : TypeId) (h : Bool) (v : Value) : FR P (Instr.alloc t h v) := by
  unfold Instr.alloc
  repeat first | with_reducible exact fr_storeAt .. | with_reducible exact fr_loadAt .. | with_reducible exact fr_sureAddr .. | with_reducible exact fr_asAddr .. | with_reducible exact fr_asBool .. | with_reducible exact fr_asInt .. | with_reducible exact fr_asIntOf .. | with_reducible exact fr_boundsPanic .. | with_reducible exact fr_runtimePanic .. | with_reducible exact fr_part .. | with_reducible exact fr_elemOf .. | with_reducible exact fr_newVar .. | with_reducible exact fr_newRow .. | with_reducible exact fr_storeVar .. | with_reducible exact fr_loadVar .. | with_reducible exact fr_loadCells .. | with_reducible exact fr_storeCells .. | with_reducible exact fr_loadCellsFrom .. | with_reducible exact fr_isAgg .. | with_reducible exact fr_sizeOf .. | with_reducible exact fr_zeroValue .. | with_reducible exact fr_typeStr .. | with_reducible exact fr_underlying .. | with_reducible exact fr_typeInfo .. | with_reducible exact fr_behindNumber .. | with_reducible exact fr_asNumber .. | with_reducible exact fr_newNumber .. | with_reducible exact fr_newCells .. | with_reducible exact fr_numberAt .. | with_reducible exact fr_noView .. | with_reducible exact fr_askRoom .. | with_reducible exact fr_goPanic .. | with_reducible exact fr_unsupported .. | with_reducible exact fr_stuck .. | with_reducible exact fr_noRoom .. | with_reducible exact fr_program .. | with_reducible exact fr_choose .. | with_reducible exact fr_store .. | with_reducible exact fr_load .. | with_reducible exact FR.pure _ | with_reducible exact FR.halt _ | with_reducible assumption | with_reducible refine fr_shapeE (fun _ _ _ => rfl) (fun _ => ?_) | with_reducible apply FR.map | with_reducible apply FR.bind | with_reducible apply FR.array | with_reducible apply FR.range | with_reducible apply FR.arrayMapM | with_reducible apply FR.list | with_reducible apply FR.listM | with_reducible refine FR.ite ?_ ?_ | split | with_reducible intro _ | (dsimp only)
theorem fr_box (t : TypeId) (v : Value) : FR P (Instr.box t v) := by
  unfold Instr.box
  repeat first | with_reducible exact fr_alloc .. | with_reducible exact fr_storeAt .. | with_reducible exact fr_loadAt .. | with_reducible exact fr_sureAddr .. | with_reducible exact fr_asAddr .. | with_reducible exact fr_asBool .. | with_reducible exact fr_asInt .. | with_reducible exact fr_asIntOf .. | with_reducible exact fr_boundsPanic .. | with_reducible exact fr_runtimePanic .. | with_reducible exact fr_part .. | with_reducible exact fr_elemOf .. | with_reducible exact fr_newVar .. | with_reducible exact fr_newRow .. | with_reducible exact fr_storeVar .. | with_reducible exact fr_loadVar .. | with_reducible exact fr_loadCells .. | with_reducible exact fr_storeCells .. | with_reducible exact fr_loadCellsFrom .. | with_reducible exact fr_isAgg .. | with_reducible exact fr_sizeOf .. | with_reducible exact fr_zeroValue .. | with_reducible exact fr_typeStr .. | with_reducible exact fr_underlying .. | with_reducible exact fr_typeInfo .. | with_reducible exact fr_behindNumber .. | with_reducible exact fr_asNumber .. | with_reducible exact fr_newNumber .. | with_reducible exact fr_newCells .. | with_reducible exact fr_numberAt .. | with_reducible exact fr_noView .. | with_reducible exact fr_askRoom .. | with_reducible exact fr_goPanic .. | with_reducible exact fr_unsupported .. | with_reducible exact fr_stuck .. | with_reducible exact fr_noRoom .. | with_reducible exact fr_program .. | with_reducible exact fr_choose .. | with_reducible exact fr_store .. | with_reducible exact fr_load .. | with_reducible exact FR.pure _ | with_reducible exact FR.halt _ | with_reducible assumption | with_reducible refine fr_shapeE (fun _ _ _ => rfl) (fun _ => ?_) | with_reducible apply FR.map | with_reducible apply FR.bind | with_reducible apply FR.array | with_reducible apply FR.range | with_reducible apply FR.arrayMapM | with_reducible apply FR.list | with_reducible apply FR.listM | with_reducible refine FR.ite ?_ ?_ | split | with_reducible intro _ | (dsimp only)
theorem fr_indexAt (t : TypeId) (v x : Value) : FR P (Instr.indexAt t v x) := by
  unfold Instr.indexAt
  repeat first | with_reducible exact fr_box .. | with_reducible exact fr_alloc .. | with_reducible exact fr_storeAt .. | with_reducible exact fr_loadAt .. | with_reducible exact fr_sureAddr .. | with_reducible exact fr_asAddr .. | with_reducible exact fr_asBool .. | with_reducible exact fr_asInt .. | with_reducible exact fr_asIntOf .. | with_reducible exact fr_boundsPanic .. | with_reducible exact fr_runtimePanic .. | with_reducible exact fr_part .. | with_reducible exact fr_elemOf .. | with_reducible exact fr_newVar .. | with_reducible exact fr_newRow .. | with_reducible exact fr_storeVar .. | with_reducible exact fr_loadVar .. | with_reducible exact fr_loadCells .. | with_reducible exact fr_storeCells .. | with_reducible exact fr_loadCellsFrom .. | with_reducible exact fr_isAgg .. | with_reducible exact fr_sizeOf .. | with_reducible exact fr_zeroValue .. | with_reducible exact fr_typeStr .. | with_reducible exact fr_underlying .. | with_reducible exact fr_typeInfo .. | with_reducible exact fr_behindNumber .. | with_reducible exact fr_asNumber .. | with_reducible exact fr_newNumber .. | with_reducible exact fr_newCells .. | with_reducible exact fr_numberAt .. | with_reducible exact fr_noView .. | with_reducible exact fr_askRoom .. | with_reducible exact fr_goPanic .. | with_reducible exact fr_unsupported .. | with_reducible exact fr_stuck .. | with_reducible exact fr_noRoom .. | with_reducible exact fr_program .. | with_reducible exact fr_choose .. | with_reducible exact fr_store .. | with_reducible exact fr_load .. | with_reducible exact FR.pure _ | with_reducible exact FR.halt _ | with_reducible assumption | with_reducible refine fr_shapeE (fun _ _ _ => rfl) (fun _ => ?_) | with_reducible apply FR.map | with_reducible apply FR.bind | with_reducible apply FR.array | with_reducible apply FR.range | with_reducible apply FR.arrayMapM | with_reducible apply FR.list | with_reducible apply FR.listM | with_reducible refine FR.ite ?_ ?_ | split | with_reducible intro _ | (dsimp only)
theorem fr_makeSlice (t : TypeId) (v x : Value) : FR P (Instr.makeSlice t v x) := by
  unfold Instr.makeSlice
  repeat first | with_reducible exact fr_indexAt .. | with_reducible exact fr_box .. | with_reducible exact fr_alloc .. | with_reducible exact fr_storeAt .. | with_reducible exact fr_loadAt .. | with_reducible exact fr_sureAddr .. | with_reducible exact fr_asAddr .. | with_reducible exact fr_asBool .. | with_reducible exact fr_asInt .. | with_reducible exact fr_asIntOf .. | with_reducible exact fr_boundsPanic .. | with_reducible exact fr_runtimePanic .. | with_reducible exact fr_part .. | with_reducible exact fr_elemOf .. | with_reducible exact fr_newVar .. | with_reducible exact fr_newRow .. | with_reducible exact fr_storeVar .. | with_reducible exact fr_loadVar .. | with_reducible exact fr_loadCells .. | with_reducible exact fr_storeCells .. | with_reducible exact fr_loadCellsFrom .. | with_reducible exact fr_isAgg .. | with_reducible exact fr_sizeOf .. | with_reducible exact fr_zeroValue .. | with_reducible exact fr_typeStr .. | with_reducible exact fr_underlying .. | with_reducible exact fr_typeInfo .. | with_reducible exact fr_behindNumber .. | with_reducible exact fr_asNumber .. | with_reducible exact fr_newNumber .. | with_reducible exact fr_newCells .. | with_reducible exact fr_numberAt .. | with_reducible exact fr_noView .. | with_reducible exact fr_askRoom .. | with_reducible exact fr_goPanic .. | with_reducible exact fr_unsupported .. | with_reducible exact fr_stuck .. | with_reducible exact fr_noRoom .. | with_reducible exact fr_program .. | with_reducible exact fr_choose .. | with_reducible exact fr_store .. | with_reducible exact fr_load .. | with_reducible exact FR.pure _ | with_reducible exact FR.halt _ | with_reducible assumption | with_reducible refine fr_shapeE (fun _ _ _ => rfl) (fun _ => ?_) | with_reducible apply FR.map | with_reducible apply FR.bind | with_reducible apply FR.array | with_reducible apply FR.range | with_reducible apply FR.arrayMapM | with_reducible apply FR.list | with_reducible apply FR.listM | with_reducible refine FR.ite ?_ ?_ | split | with_reducible intro _ | (dsimp only)
theorem fr_extract (v : Value) (n : Nat) : FR P (Instr.extract v n) := by
  unfold Instr.extract
  repeat first | with_reducible exact fr_makeSlice .. | with_reducible exact fr_indexAt .. | with_reducible exact fr_box .. | with_reducible exact fr_alloc .. | with_reducible exact fr_storeAt .. | with_reducible exact fr_loadAt .. | with_reducible exact fr_sureAddr .. | with_reducible exact fr_asAddr .. | with_reducible exact fr_asBool .. | with_reducible exact fr_asInt .. | with_reducible exact fr_asIntOf .. | with_reducible exact fr_boundsPanic .. | with_reducible exact fr_runtimePanic .. | with_reducible exact fr_part .. | with_reducible exact fr_elemOf .. | with_reducible exact fr_newVar .. | with_reducible exact fr_newRow .. | with_reducible exact fr_storeVar .. | with_reducible exact fr_loadVar .. | with_reducible exact fr_loadCells .. | with_reducible exact fr_storeCells .. | with_reducible exact fr_loadCellsFrom .. | with_reducible exact fr_isAgg .. | with_reducible exact fr_sizeOf .. | with_reducible exact fr_zeroValue .. | with_reducible exact fr_typeStr .. | with_reducible exact fr_underlying .. | with_reducible exact fr_typeInfo .. | with_reducible exact fr_behindNumber .. | with_reducible exact fr_asNumber .. | with_reducible exact fr_newNumber .. | with_reducible exact fr_newCells .. | with_reducible exact fr_numberAt .. | with_reducible exact fr_noView .. | with_reducible exact fr_askRoom .. | with_reducible exact fr_goPanic .. | with_reducible exact fr_unsupported .. | with_reducible exact fr_stuck .. | with_reducible exact fr_noRoom .. | with_reducible exact fr_program .. | with_reducible exact fr_choose .. | with_reducible exact fr_store .. | with_reducible exact fr_load .. | with_reducible exact FR.pure _ | with_reducible exact FR.halt _ | with_reducible assumption | with_reducible refine fr_shapeE (fun _ _ _ => rfl) (fun _ => ?_) | with_reducible apply FR.map | with_reducible apply FR.bind | with_reducible apply FR.array | with_reducible apply FR.range | with_reducible apply FR.arrayMapM | with_reducible apply FR.list | with_reducible apply FR.listM | with_reducible refine FR.ite ?_ ?_ | split | with_reducible intro _ | (dsimp only)
theorem fr_makeFunc (f : Fn) (a b : Array Value) : FR P (Instr.makeFunc f a b) := by
  unfold Instr.makeFunc
  repeat first | with_reducible exact fr_extract .. | with_reducible exact fr_makeSlice .. | with_reducible exact fr_indexAt .. | with_reducible exact fr_box .. | with_reducible exact fr_alloc .. | with_reducible exact fr_storeAt .. | with_reducible exact fr_loadAt .. | with_reducible exact fr_sureAddr .. | with_reducible exact fr_asAddr .. | with_reducible exact fr_asBool .. | with_reducible exact fr_asInt .. | with_reducible exact fr_asIntOf .. | with_reducible exact fr_boundsPanic .. | with_reducible exact fr_runtimePanic .. | with_reducible exact fr_part .. | with_reducible exact fr_elemOf .. | with_reducible exact fr_newVar .. | with_reducible exact fr_newRow .. | with_reducible exact fr_storeVar .. | with_reducible exact fr_loadVar .. | with_reducible exact fr_loadCells .. | with_reducible exact fr_storeCells .. | with_reducible exact fr_loadCellsFrom .. | with_reducible exact fr_isAgg .. | with_reducible exact fr_sizeOf .. | with_reducible exact fr_zeroValue .. | with_reducible exact fr_typeStr .. | with_reducible exact fr_underlying .. | with_reducible exact fr_typeInfo .. | with_reducible exact fr_behindNumber .. | with_reducible exact fr_asNumber .. | with_reducible exact fr_newNumber .. | with_reducible exact fr_newCells .. | with_reducible exact fr_numberAt .. | with_reducible exact fr_noView .. | with_reducible exact fr_askRoom .. | with_reducible exact fr_goPanic .. | with_reducible exact fr_unsupported .. | with_reducible exact fr_stuck .. | with_reducible exact fr_noRoom .. | with_reducible exact fr_program .. | with_reducible exact fr_choose .. | with_reducible exact fr_store .. | with_reducible exact fr_load .. | with_reducible exact FR.pure _ | with_reducible exact FR.halt _ | with_reducible assumption | with_reducible refine fr_shapeE (fun _ _ _ => rfl) (fun _ => ?_) | with_reducible apply FR.map | with_reducible apply FR.bind | with_reducible apply FR.array | with_reducible apply FR.range | with_reducible apply FR.arrayMapM | with_reducible apply FR.list | with_reducible apply FR.listM | with_reducible refine FR.ite ?_ ?_ | split | with_reducible intro _ | (dsimp only)
theorem fr_intArith (op : BinOp) (k : IntKind) (x y : Int) : FR P (Op.intArith op k x y) := by
  unfold Op.intArith
  repeat first | with_reducible exact fr_makeFunc .. | with_reducible exact fr_extract .. | with_reducible exact fr_makeSlice .. | with_reducible exact fr_indexAt .. | with_reducible exact fr_box .. | with_reducible exact fr_alloc .. | with_reducible exact fr_storeAt .. | with_reducible exact fr_loadAt .. | with_reducible exact fr_sureAddr .. | with_reducible exact fr_asAddr .. | with_reducible exact fr_asBool .. | with_reducible exact fr_asInt .. | with_reducible exact fr_asIntOf .. | with_reducible exact fr_boundsPanic .. | with_reducible exact fr_runtimePanic .. | with_reducible exact fr_part .. | with_reducible exact fr_elemOf .. | with_reducible exact fr_newVar .. | with_reducible exact fr_newRow .. | with_reducible exact fr_storeVar .. | with_reducible exact fr_loadVar .. | with_reducible exact fr_loadCells .. | with_reducible exact fr_storeCells .. | with_reducible exact fr_loadCellsFrom .. | with_reducible exact fr_isAgg .. | with_reducible exact fr_sizeOf .. | with_reducible exact fr_zeroValue .. | with_reducible exact fr_typeStr .. | with_reducible exact fr_underlying .. | with_reducible exact fr_typeInfo .. | with_reducible exact fr_behindNumber .. | with_reducible exact fr_asNumber .. | with_reducible exact fr_newNumber .. | with_reducible exact fr_newCells .. | with_reducible exact fr_numberAt .. | with_reducible exact fr_noView .. | with_reducible exact fr_askRoom .. | with_reducible exact fr_goPanic .. | with_reducible exact fr_unsupported .. | with_reducible exact fr_stuck .. | with_reducible exact fr_noRoom .. | with_reducible exact fr_program .. | with_reducible exact fr_choose .. | with_reducible exact fr_store .. | with_reducible exact fr_load .. | with_reducible exact FR.pure _ | with_reducible exact FR.halt _ | with_reducible assumption | with_reducible refine fr_shapeE (fun _ _ _ => rfl) (fun _ => ?_) | with_reducible apply FR.map | with_reducible apply FR.bind | with_reducible apply FR.array | with_reducible apply FR.range | with_reducible apply FR.arrayMapM | with_reducible apply FR.list | with_reducible apply FR.listM | with_reducible refine FR.ite ?_ ?_ | split | with_reducible intro _ | (dsimp only)
theorem fr_intDiv (op : BinOp) (k : IntKind) (x y : Int) : FR P (Op.intDiv op k x y) := by
  unfold Op.intDiv
  repeat first | with_reducible exact fr_intArith .. | with_reducible exact fr_makeFunc .. | with_reducible exact fr_extract .. | with_reducible exact fr_makeSlice .. | with_reducible exact fr_indexAt .. | with_reducible exact fr_box .. | with_reducible exact fr_alloc .. | with_reducible exact fr_storeAt .. | with_reducible exact fr_loadAt .. | with_reducible exact fr_sureAddr .. | with_reducible exact fr_asAddr .. | with_reducible exact fr_asBool .. | with_reducible exact fr_asInt .. | with_reducible exact fr_asIntOf .. | with_reducible exact fr_boundsPanic .. | with_reducible exact fr_runtimePanic .. | with_reducible exact fr_part .. | with_reducible exact fr_elemOf .. | with_reducible exact fr_newVar .. | with_reducible exact fr_newRow .. | with_reducible exact fr_storeVar .. | with_reducible exact fr_loadVar .. | with_reducible exact fr_loadCells .. | with_reducible exact fr_storeCells .. | with_reducible exact fr_loadCellsFrom .. | with_reducible exact fr_isAgg .. | with_reducible exact fr_sizeOf .. | with_reducible exact fr_zeroValue .. | with_reducible exact fr_typeStr .. | with_reducible exact fr_underlying .. | with_reducible exact fr_typeInfo .. | with_reducible exact fr_behindNumber .. | with_reducible exact fr_asNumber .. | with_reducible exact fr_newNumber .. | with_reducible exact fr_newCells .. | with_reducible exact fr_numberAt .. | with_reducible exact fr_noView .. | with_reducible exact fr_askRoom .. | with_reducible exact fr_goPanic .. | with_reducible exact fr_unsupported .. | with_reducible exact fr_stuck .. | with_reducible exact fr_noRoom .. | with_reducible exact fr_program .. | with_reducible exact fr_choose .. | with_reducible exact fr_store .. | with_reducible exact fr_load .. | with_reducible exact FR.pure _ | with_reducible exact FR.halt _ | with_reducible assumption | with_reducible refine fr_shapeE (fun _ _ _ => rfl) (fun _ => ?_) | with_reducible apply FR.map | with_reducible apply FR.bind | with_reducible apply FR.array | with_reducible apply FR.range | with_reducible apply FR.arrayMapM | with_reducible apply FR.list | with_reducible apply FR.listM | with_reducible refine FR.ite ?_ ?_ | split | with_reducible intro _ | (dsimp only)
theorem fr_intBits (op : BinOp) (k : IntKind) (x y : Int) : FR P (Op.intBits op k x y) := by
  unfold Op.intBits
  repeat first | with_reducible exact fr_intDiv .. | with_reducible exact fr_intArith .. | with_reducible exact fr_makeFunc .. | with_reducible exact fr_extract .. | with_reducible exact fr_makeSlice .. | with_reducible exact fr_indexAt .. | with_reducible exact fr_box .. | with_reducible exact fr_alloc .. | with_reducible exact fr_storeAt .. | with_reducible exact fr_loadAt .. | with_reducible exact fr_sureAddr .. | with_reducible exact fr_asAddr .. | with_reducible exact fr_asBool .. | with_reducible exact fr_asInt .. | with_reducible exact fr_asIntOf .. | with_reducible exact fr_boundsPanic .. | with_reducible exact fr_runtimePanic .. | with_reducible exact fr_part .. | with_reducible exact fr_elemOf .. | with_reducible exact fr_newVar .. | with_reducible exact fr_newRow .. | with_reducible exact fr_storeVar .. | with_reducible exact fr_loadVar .. | with_reducible exact fr_loadCells .. | with_reducible exact fr_storeCells .. | with_reducible exact fr_loadCellsFrom .. | with_reducible exact fr_isAgg .. | with_reducible exact fr_sizeOf .. | with_reducible exact fr_zeroValue .. | with_reducible exact fr_typeStr .. | with_reducible exact fr_underlying .. | with_reducible exact fr_typeInfo .. | with_reducible exact fr_behindNumber .. | with_reducible exact fr_asNumber .. | with_reducible exact fr_newNumber .. | with_reducible exact fr_newCells .. | with_reducible exact fr_numberAt .. | with_reducible exact fr_noView .. | with_reducible exact fr_askRoom .. | with_reducible exact fr_goPanic .. | with_reducible exact fr_unsupported .. | with_reducible exact fr_stuck .. | with_reducible exact fr_noRoom .. | with_reducible exact fr_program .. | with_reducible exact fr_choose .. | with_reducible exact fr_store .. | with_reducible exact fr_load .. | with_reducible exact FR.pure _ | with_reducible exact FR.halt _ | with_reducible assumption | with_reducible refine fr_shapeE (fun _ _ _ => rfl) (fun _ => ?_) | with_reducible apply FR.map | with_reducible apply FR.bind | with_reducible apply FR.array | with_reducible apply FR.range | with_reducible apply FR.arrayMapM | with_reducible apply FR.list | with_reducible apply FR.listM | with_reducible refine FR.ite ?_ ?_ | split | with_reducible intro _ | (dsimp only)
theorem fr_shift (op : BinOp) (k k2 : IntKind) (x y : Int) : FR P (Op.shift op k x k2 y) := by
  unfold Op.shift
  repeat first | with_reducible exact fr_intBits .. | with_reducible exact fr_intDiv .. | with_reducible exact fr_intArith .. | with_reducible exact fr_makeFunc .. | with_reducible exact fr_extract .. | with_reducible exact fr_makeSlice .. | with_reducible exact fr_indexAt .. | with_reducible exact fr_box .. | with_reducible exact fr_alloc .. | with_reducible exact fr_storeAt .. | with_reducible exact fr_loadAt .. | with_reducible exact fr_sureAddr .. | with_reducible exact fr_asAddr .. | with_reducible exact fr_asBool .. | with_reducible exact fr_asInt .. | with_reducible exact fr_asIntOf .. | with_reducible exact fr_boundsPanic .. | with_reducible exact fr_runtimePanic .. | with_reducible exact fr_part .. | with_reducible exact fr_elemOf .. | with_reducible exact fr_newVar .. | with_reducible exact fr_newRow .. | with_reducible exact fr_storeVar .. | with_reducible exact fr_loadVar .. | with_reducible exact fr_loadCells .. | with_reducible exact fr_storeCells .. | with_reducible exact fr_loadCellsFrom .. | with_reducible exact fr_isAgg .. | with_reducible exact fr_sizeOf .. | with_reducible exact fr_zeroValue .. | with_reducible exact fr_typeStr .. | with_reducible exact fr_underlying .. | with_reducible exact fr_typeInfo .. | with_reducible exact fr_behindNumber .. | with_reducible exact fr_asNumber .. | with_reducible exact fr_newNumber .. | with_reducible exact fr_newCells .. | with_reducible exact fr_numberAt .. | with_reducible exact fr_noView .. | with_reducible exact fr_askRoom .. | with_reducible exact fr_goPanic .. | with_reducible exact fr_unsupported .. | with_reducible exact fr_stuck .. | with_reducible exact fr_noRoom .. | with_reducible exact fr_program .. | with_reducible exact fr_choose .. | with_reducible exact fr_store .. | with_reducible exact fr_load .. | with_reducible exact FR.pure _ | with_reducible exact FR.halt _ | with_reducible assumption | with_reducible refine fr_shapeE (fun _ _ _ => rfl) (fun _ => ?_) | with_reducible apply FR.map | with_reducible apply FR.bind | with_reducible apply FR.array | with_reducible apply FR.range | with_reducible apply FR.arrayMapM | with_reducible apply FR.list | with_reducible apply FR.listM | with_reducible refine FR.ite ?_ ?_ | split | with_reducible intro _ | (dsimp only)
theorem fr_intCmp (op : BinOp) (x y : Int) : FR P (Op.intCmp op x y) := by
  unfold Op.intCmp
  repeat first | with_reducible exact fr_shift .. | with_reducible exact fr_intBits .. | with_reducible exact fr_intDiv .. | with_reducible exact fr_intArith .. | with_reducible exact fr_makeFunc .. | with_reducible exact fr_extract .. | with_reducible exact fr_makeSlice .. | with_reducible exact fr_indexAt .. | with_reducible exact fr_box .. | with_reducible exact fr_alloc .. | with_reducible exact fr_storeAt .. | with_reducible exact fr_loadAt .. | with_reducible exact fr_sureAddr .. | with_reducible exact fr_asAddr .. | with_reducible exact fr_asBool .. | with_reducible exact fr_asInt .. | with_reducible exact fr_asIntOf .. | with_reducible exact fr_boundsPanic .. | with_reducible exact fr_runtimePanic .. | with_reducible exact fr_part .. | with_reducible exact fr_elemOf .. | with_reducible exact fr_newVar .. | with_reducible exact fr_newRow .. | with_reducible exact fr_storeVar .. | with_reducible exact fr_loadVar .. | with_reducible exact fr_loadCells .. | with_reducible exact fr_storeCells .. | with_reducible exact fr_loadCellsFrom .. | with_reducible exact fr_isAgg .. | with_reducible exact fr_sizeOf .. | with_reducible exact fr_zeroValue .. | with_reducible exact fr_typeStr .. | with_reducible exact fr_underlying .. | with_reducible exact fr_typeInfo .. | with_reducible exact fr_behindNumber .. | with_reducible exact fr_asNumber .. | with_reducible exact fr_newNumber .. | with_reducible exact fr_newCells .. | with_reducible exact fr_numberAt .. | with_reducible exact fr_noView .. | with_reducible exact fr_askRoom .. | with_reducible exact fr_goPanic .. | with_reducible exact fr_unsupported .. | with_reducible exact fr_stuck .. | with_reducible exact fr_noRoom .. | with_reducible exact fr_program .. | with_reducible exact fr_choose .. | with_reducible exact fr_store .. | with_reducible exact fr_load .. | with_reducible exact FR.pure _ | with_reducible exact FR.halt _ | with_reducible assumption | with_reducible refine fr_shapeE (fun _ _ _ => rfl) (fun _ => ?_) | with_reducible apply FR.map | with_reducible apply FR.bind | with_reducible apply FR.array | with_reducible apply FR.range | with_reducible apply FR.arrayMapM | with_reducible apply FR.list | with_reducible apply FR.listM | with_reducible refine FR.ite ?_ ?_ | split | with_reducible intro _ | (dsimp only)
theorem fr_floatArith (op : BinOp) (k : FloatKind) (x y : Nat) : FR P (Op.floatArith op k x y) := by
  unfold Op.floatArith
  repeat first | with_reducible exact fr_intCmp .. | with_reducible exact fr_shift .. | with_reducible exact fr_intBits .. | with_reducible exact fr_intDiv .. | with_reducible exact fr_intArith .. | with_reducible exact fr_makeFunc .. | with_reducible exact fr_extract .. | with_reducible exact fr_makeSlice .. | with_reducible exact fr_indexAt .. | with_reducible exact fr_box .. | with_reducible exact fr_alloc .. | with_reducible exact fr_storeAt .. | with_reducible exact fr_loadAt .. | with_reducible exact fr_sureAddr .. | with_reducible exact fr_asAddr .. | with_reducible exact fr_asBool .. | with_reducible exact fr_asInt .. | with_reducible exact fr_asIntOf .. | with_reducible exact fr_boundsPanic .. | with_reducible exact fr_runtimePanic .. | with_reducible exact fr_part .. | with_reducible exact fr_elemOf .. | with_reducible exact fr_newVar .. | with_reducible exact fr_newRow .. | with_reducible exact fr_storeVar .. | with_reducible exact fr_loadVar .. | with_reducible exact fr_loadCells .. | with_reducible exact fr_storeCells .. | with_reducible exact fr_loadCellsFrom .. | with_reducible exact fr_isAgg .. | with_reducible exact fr_sizeOf .. | with_reducible exact fr_zeroValue .. | with_reducible exact fr_typeStr .. | with_reducible exact fr_underlying .. | with_reducible exact fr_typeInfo .. | with_reducible exact fr_behindNumber .. | with_reducible exact fr_asNumber .. | with_reducible exact fr_newNumber .. | with_reducible exact fr_newCells .. | with_reducible exact fr_numberAt .. | with_reducible exact fr_noView .. | with_reducible exact fr_askRoom .. | with_reducible exact fr_goPanic .. | with_reducible exact fr_unsupported .. | with_reducible exact fr_stuck .. | with_reducible exact fr_noRoom .. | with_reducible exact fr_program .. | with_reducible exact fr_choose .. | with_reducible exact fr_store .. | with_reducible exact fr_load .. | with_reducible exact FR.pure _ | with_reducible exact FR.halt _ | with_reducible assumption | with_reducible refine fr_shapeE (fun _ _ _ => rfl) (fun _ => ?_) | with_reducible apply FR.map | with_reducible apply FR.bind | with_reducible apply FR.array | with_reducible apply FR.range | with_reducible apply FR.arrayMapM | with_reducible apply FR.list | with_reducible apply FR.listM | with_reducible refine FR.ite ?_ ?_ | split | with_reducible intro _ | (dsimp only)
theorem fr_floatCmp (op : BinOp) (k : FloatKind) (x y : Nat) : FR P (Op.floatCmp op k x y) := by
  unfold Op.floatCmp
  repeat first | with_reducible exact fr_floatArith .. | with_reducible exact fr_intCmp .. | with_reducible exact fr_shift .. | with_reducible exact fr_intBits .. | with_reducible exact fr_intDiv .. | with_reducible exact fr_intArith .. | with_reducible exact fr_makeFunc .. | with_reducible exact fr_extract .. | with_reducible exact fr_makeSlice .. | with_reducible exact fr_indexAt .. | with_reducible exact fr_box .. | with_reducible exact fr_alloc .. | with_reducible exact fr_storeAt .. | with_reducible exact fr_loadAt .. | with_reducible exact fr_sureAddr .. | with_reducible exact fr_asAddr .. | with_reducible exact fr_asBool .. | with_reducible exact fr_asInt .. | with_reducible exact fr_asIntOf .. | with_reducible exact fr_boundsPanic .. | with_reducible exact fr_runtimePanic .. | with_reducible exact fr_part .. | with_reducible exact fr_elemOf .. | with_reducible exact fr_newVar .. | with_reducible exact fr_newRow .. | with_reducible exact fr_storeVar .. | with_reducible exact fr_loadVar .. | with_reducible exact fr_loadCells .. | with_reducible exact fr_storeCells .. | with_reducible exact fr_loadCellsFrom .. | with_reducible exact fr_isAgg .. | with_reducible exact fr_sizeOf .. | with_reducible exact fr_zeroValue .. | with_reducible exact fr_typeStr .. | with_reducible exact fr_underlying .. | with_reducible exact fr_typeInfo .. | with_reducible exact fr_behindNumber .. | with_reducible exact fr_asNumber .. | with_reducible exact fr_newNumber .. | with_reducible exact fr_newCells .. | with_reducible exact fr_numberAt .. | with_reducible exact fr_noView .. | with_reducible exact fr_askRoom .. | with_reducible exact fr_goPanic .. | with_reducible exact fr_unsupported .. | with_reducible exact fr_stuck .. | with_reducible exact fr_noRoom .. | with_reducible exact fr_program .. | with_reducible exact fr_choose .. | with_reducible exact fr_store .. | with_reducible exact fr_load .. | with_reducible exact FR.pure _ | with_reducible exact FR.halt _ | with_reducible assumption | with_reducible refine fr_shapeE (fun _ _ _ => rfl) (fun _ => ?_) | with_reducible apply FR.map | with_reducible apply FR.bind | with_reducible apply FR.array | with_reducible apply FR.range | with_reducible apply FR.arrayMapM | with_reducible apply FR.list | with_reducible apply FR.listM | with_reducible refine FR.ite ?_ ?_ | split | with_reducible intro _ | (dsimp only)
theorem fr_unary (op : UnOp) (x : Value) : FR P (Op.unary op x) := by
  unfold Op.unary
  repeat first | with_reducible exact fr_floatCmp .. | with_reducible exact fr_floatArith .. | with_reducible exact fr_intCmp .. | with_reducible exact fr_shift .. | with_reducible exact fr_intBits .. | with_reducible exact fr_intDiv .. | with_reducible exact fr_intArith .. | with_reducible exact fr_makeFunc .. | with_reducible exact fr_extract .. | with_reducible exact fr_makeSlice .. | with_reducible exact fr_indexAt .. | with_reducible exact fr_box .. | with_reducible exact fr_alloc .. | with_reducible exact fr_storeAt .. | with_reducible exact fr_loadAt .. | with_reducible exact fr_sureAddr .. | with_reducible exact fr_asAddr .. | with_reducible exact fr_asBool .. | with_reducible exact fr_asInt .. | with_reducible exact fr_asIntOf .. | with_reducible exact fr_boundsPanic .. | with_reducible exact fr_runtimePanic .. | with_reducible exact fr_part .. | with_reducible exact fr_elemOf .. | with_reducible exact fr_newVar .. | with_reducible exact fr_newRow .. | with_reducible exact fr_storeVar .. | with_reducible exact fr_loadVar .. | with_reducible exact fr_loadCells .. | with_reducible exact fr_storeCells .. | with_reducible exact fr_loadCellsFrom .. | with_reducible exact fr_isAgg .. | with_reducible exact fr_sizeOf .. | with_reducible exact fr_zeroValue .. | with_reducible exact fr_typeStr .. | with_reducible exact fr_underlying .. | with_reducible exact fr_typeInfo .. | with_reducible exact fr_behindNumber .. | with_reducible exact fr_asNumber .. | with_reducible exact fr_newNumber .. | with_reducible exact fr_newCells .. | with_reducible exact fr_numberAt .. | with_reducible exact fr_noView .. | with_reducible exact fr_askRoom .. | with_reducible exact fr_goPanic .. | with_reducible exact fr_unsupported .. | with_reducible exact fr_stuck .. | with_reducible exact fr_noRoom .. | with_reducible exact fr_program .. | with_reducible exact fr_choose .. | with_reducible exact fr_store .. | with_reducible exact fr_load .. | with_reducible exact FR.pure _ | with_reducible exact FR.halt _ | with_reducible assumption | with_reducible refine fr_shapeE (fun _ _ _ => rfl) (fun _ => ?_) | with_reducible apply FR.map | with_reducible apply FR.bind | with_reducible apply FR.array | with_reducible apply FR.range | with_reducible apply FR.arrayMapM | with_reducible apply FR.list | with_reducible apply FR.listM | with_reducible refine FR.ite ?_ ?_ | split | with_reducible intro _ | (dsimp only)
theorem fr_intToInt (k : IntKind) (n : Int) : FR P (Conv.intToInt k n) := by
  unfold Conv.intToInt
  repeat first | with_reducible exact fr_unary .. | with_reducible exact fr_floatCmp .. | with_reducible exact fr_floatArith .. | with_reducible exact fr_intCmp .. | with_reducible exact fr_shift .. | with_reducible exact fr_intBits .. | with_reducible exact fr_intDiv .. | with_reducible exact fr_intArith .. | with_reducible exact fr_makeFunc .. | with_reducible exact fr_extract .. | with_reducible exact fr_makeSlice .. | with_reducible exact fr_indexAt .. | with_reducible exact fr_box .. | with_reducible exact fr_alloc .. | with_reducible exact fr_storeAt .. | with_reducible exact fr_loadAt .. | with_reducible exact fr_sureAddr .. | with_reducible exact fr_asAddr .. | with_reducible exact fr_asBool .. | with_reducible exact fr_asInt .. | with_reducible exact fr_asIntOf .. | with_reducible exact fr_boundsPanic .. | with_reducible exact fr_runtimePanic .. | with_reducible exact fr_part .. | with_reducible exact fr_elemOf .. | with_reducible exact fr_newVar .. | with_reducible exact fr_newRow .. | with_reducible exact fr_storeVar .. | with_reducible exact fr_loadVar .. | with_reducible exact fr_loadCells .. | with_reducible exact fr_storeCells .. | with_reducible exact fr_loadCellsFrom .. | with_reducible exact fr_isAgg .. | with_reducible exact fr_sizeOf .. | with_reducible exact fr_zeroValue .. | with_reducible exact fr_typeStr .. | with_reducible exact fr_underlying .. | with_reducible exact fr_typeInfo .. | with_reducible exact fr_behindNumber .. | with_reducible exact fr_asNumber .. | with_reducible exact fr_newNumber .. | with_reducible exact fr_newCells .. | with_reducible exact fr_numberAt .. | with_reducible exact fr_noView .. | with_reducible exact fr_askRoom .. | with_reducible exact fr_goPanic .. | with_reducible exact fr_unsupported .. | with_reducible exact fr_stuck .. | with_reducible exact fr_noRoom .. | with_reducible exact fr_program .. | with_reducible exact fr_choose .. | with_reducible exact fr_store .. | with_reducible exact fr_load .. | with_reducible exact FR.pure _ | with_reducible exact FR.halt _ | with_reducible assumption | with_reducible refine fr_shapeE (fun _ _ _ => rfl) (fun _ => ?_) | with_reducible apply FR.map | with_reducible apply FR.bind | with_reducible apply FR.array | with_reducible apply FR.range | with_reducible apply FR.arrayMapM | with_reducible apply FR.list | with_reducible apply FR.listM | with_reducible refine FR.ite ?_ ?_ | split | with_reducible intro _ | (dsimp only)
theorem fr_intToFloat (k : FloatKind) (n : Int) : FR P (Conv.intToFloat k n) := by
  unfold Conv.intToFloat
  repeat first | with_reducible exact fr_intToInt .. | with_reducible exact fr_unary .. | with_reducible exact fr_floatCmp .. | with_reducible exact fr_floatArith .. | with_reducible exact fr_intCmp .. | with_reducible exact fr_shift .. | with_reducible exact fr_intBits .. | with_reducible exact fr_intDiv .. | with_reducible exact fr_intArith .. | with_reducible exact fr_makeFunc .. | with_reducible exact fr_extract .. | with_reducible exact fr_makeSlice .. | with_reducible exact fr_indexAt .. | with_reducible exact fr_box .. | with_reducible exact fr_alloc .. | with_reducible exact fr_storeAt .. | with_reducible exact fr_loadAt .. | with_reducible exact fr_sureAddr .. | with_reducible exact fr_asAddr .. | with_reducible exact fr_asBool .. | with_reducible exact fr_asInt .. | with_reducible exact fr_asIntOf .. | with_reducible exact fr_boundsPanic .. | with_reducible exact fr_runtimePanic .. | with_reducible exact fr_part .. | with_reducible exact fr_elemOf .. | with_reducible exact fr_newVar .. | with_reducible exact fr_newRow .. | with_reducible exact fr_storeVar .. | with_reducible exact fr_loadVar .. | with_reducible exact fr_loadCells .. | with_reducible exact fr_storeCells .. | with_reducible exact fr_loadCellsFrom .. | with_reducible exact fr_isAgg .. | with_reducible exact fr_sizeOf .. | with_reducible exact fr_zeroValue .. | with_reducible exact fr_typeStr .. | with_reducible exact fr_underlying .. | with_reducible exact fr_typeInfo .. | with_reducible exact fr_behindNumber .. | with_reducible exact fr_asNumber .. | with_reducible exact fr_newNumber .. | with_reducible exact fr_newCells .. | with_reducible exact fr_numberAt .. | with_reducible exact fr_noView .. | with_reducible exact fr_askRoom .. | with_reducible exact fr_goPanic .. | with_reducible exact fr_unsupported .. | with_reducible exact fr_stuck .. | with_reducible exact fr_noRoom .. | with_reducible exact fr_program .. | with_reducible exact fr_choose .. | with_reducible exact fr_store .. | with_reducible exact fr_load .. | with_reducible exact FR.pure _ | with_reducible exact FR.halt _ | with_reducible assumption | with_reducible refine fr_shapeE (fun _ _ _ => rfl) (fun _ => ?_) | with_reducible apply FR.map | with_reducible apply FR.bind | with_reducible apply FR.array | with_reducible apply FR.range | with_reducible apply FR.arrayMapM | with_reducible apply FR.list | with_reducible apply FR.listM | with_reducible refine FR.ite ?_ ?_ | split | with_reducible intro _ | (dsimp only)
theorem fr_floatToInt (k : FloatKind) (n : Nat) (d : IntKind) : FR P (Conv.floatToInt k n d) := by
  unfold Conv.floatToInt
  repeat first | with_reducible exact fr_intToFloat .. | with_reducible exact fr_intToInt .. | with_reducible exact fr_unary .. | with_reducible exact fr_floatCmp .. | with_reducible exact fr_floatArith .. | with_reducible exact fr_intCmp .. | with_reducible exact fr_shift .. | with_reducible exact fr_intBits .. | with_reducible exact fr_intDiv .. | with_reducible exact fr_intArith .. | with_reducible exact fr_makeFunc .. | with_reducible exact fr_extract .. | with_reducible exact fr_makeSlice .. | with_reducible exact fr_indexAt .. | with_reducible exact fr_box .. | with_reducible exact fr_alloc .. | with_reducible exact fr_storeAt .. | with_reducible exact fr_loadAt .. | with_reducible exact fr_sureAddr .. | with_reducible exact fr_asAddr .. | with_reducible exact fr_asBool .. | with_reducible exact fr_asInt .. | with_reducible exact fr_asIntOf .. | with_reducible exact fr_boundsPanic .. | with_reducible exact fr_runtimePanic .. | with_reducible exact fr_part .. | with_reducible exact fr_elemOf .. | with_reducible exact fr_newVar .. | with_reducible exact fr_newRow .. | with_reducible exact fr_storeVar .. | with_reducible exact fr_loadVar .. | with_reducible exact fr_loadCells .. | with_reducible exact fr_storeCells .. | with_reducible exact fr_loadCellsFrom .. | with_reducible exact fr_isAgg .. | with_reducible exact fr_sizeOf .. | with_reducible exact fr_zeroValue .. | with_reducible exact fr_typeStr .. | with_reducible exact fr_underlying .. | with_reducible exact fr_typeInfo .. | with_reducible exact fr_behindNumber .. | with_reducible exact fr_asNumber .. | with_reducible exact fr_newNumber .. | with_reducible exact fr_newCells .. | with_reducible exact fr_numberAt .. | with_reducible exact fr_noView .. | with_reducible exact fr_askRoom .. | with_reducible exact fr_goPanic .. | with_reducible exact fr_unsupported .. | with_reducible exact fr_stuck .. | with_reducible exact fr_noRoom .. | with_reducible exact fr_program .. | with_reducible exact fr_choose .. | with_reducible exact fr_store .. | with_reducible exact fr_load .. | with_reducible exact FR.pure _ | with_reducible exact FR.halt _ | with_reducible assumption | with_reducible refine fr_shapeE (fun _ _ _ => rfl) (fun _ => ?_) | with_reducible apply FR.map | with_reducible apply FR.bind | with_reducible apply FR.array | with_reducible apply FR.range | with_reducible apply FR.arrayMapM | with_reducible apply FR.list | with_reducible apply FR.listM | with_reducible refine FR.ite ?_ ?_ | split | with_reducible intro _ | (dsimp only)
theorem fr_floatToFloat (k : FloatKind) (n : Nat) (d : FloatKind) : FR P (Conv.floatToFloat k n d) := by
  unfold Conv.floatToFloat
  repeat first | with_reducible exact fr_floatToInt .. | with_reducible exact fr_intToFloat .. | with_reducible exact fr_intToInt .. | with_reducible exact fr_unary .. | with_reducible exact fr_floatCmp .. | with_reducible exact fr_floatArith .. | with_reducible exact fr_intCmp .. | with_reducible exact fr_shift .. | with_reducible exact fr_intBits .. | with_reducible exact fr_intDiv .. | with_reducible exact fr_intArith .. | with_reducible exact fr_makeFunc .. | with_reducible exact fr_extract .. | with_reducible exact fr_makeSlice .. | with_reducible exact fr_indexAt .. | with_reducible exact fr_box .. | with_reducible exact fr_alloc .. | with_reducible exact fr_storeAt .. | with_reducible exact fr_loadAt .. | with_reducible exact fr_sureAddr .. | with_reducible exact fr_asAddr .. | with_reducible exact fr_asBool .. | with_reducible exact fr_asInt .. | with_reducible exact fr_asIntOf .. | with_reducible exact fr_boundsPanic .. | with_reducible exact fr_runtimePanic .. | with_reducible exact fr_part .. | with_reducible exact fr_elemOf .. | with_reducible exact fr_newVar .. | with_reducible exact fr_newRow .. | with_reducible exact fr_storeVar .. | with_reducible exact fr_loadVar .. | with_reducible exact fr_loadCells .. | with_reducible exact fr_storeCells .. | with_reducible exact fr_loadCellsFrom .. | with_reducible exact fr_isAgg .. | with_reducible exact fr_sizeOf .. | with_reducible exact fr_zeroValue .. | with_reducible exact fr_typeStr .. | with_reducible exact fr_underlying .. | with_reducible exact fr_typeInfo .. | with_reducible exact fr_behindNumber .. | with_reducible exact fr_asNumber .. | with_reducible exact fr_newNumber .. | with_reducible exact fr_newCells .. | with_reducible exact fr_numberAt .. | with_reducible exact fr_noView .. | with_reducible exact fr_askRoom .. | with_reducible exact fr_goPanic .. | with_reducible exact fr_unsupported .. | with_reducible exact fr_stuck .. | with_reducible exact fr_noRoom .. | with_reducible exact fr_program .. | with_reducible exact fr_choose .. | with_reducible exact fr_store .. | with_reducible exact fr_load .. | with_reducible exact FR.pure _ | with_reducible exact FR.halt _ | with_reducible assumption | with_reducible refine fr_shapeE (fun _ _ _ => rfl) (fun _ => ?_) | with_reducible apply FR.map | with_reducible apply FR.bind | with_reducible apply FR.array | with_reducible apply FR.range | with_reducible apply FR.arrayMapM | with_reducible apply FR.list | with_reducible apply FR.listM | with_reducible refine FR.ite ?_ ?_ | split | with_reducible intro _ | (dsimp only)
theorem fr_lenOf (x : Value) : FR P (Builtin.lenOf x) := by
  unfold Builtin.lenOf
  repeat first | with_reducible exact fr_floatToFloat .. | with_reducible exact fr_floatToInt .. | with_reducible exact fr_intToFloat .. | with_reducible exact fr_intToInt .. | with_reducible exact fr_unary .. | with_reducible exact fr_floatCmp .. | with_reducible exact fr_floatArith .. | with_reducible exact fr_intCmp .. | with_reducible exact fr_shift .. | with_reducible exact fr_intBits .. | with_reducible exact fr_intDiv .. | with_reducible exact fr_intArith .. | with_reducible exact fr_makeFunc .. | with_reducible exact fr_extract .. | with_reducible exact fr_makeSlice .. | with_reducible exact fr_indexAt .. | with_reducible exact fr_box .. | with_reducible exact fr_alloc .. | with_reducible exact fr_storeAt .. | with_reducible exact fr_loadAt .. | with_reducible exact fr_sureAddr .. | with_reducible exact fr_asAddr .. | with_reducible exact fr_asBool .. | with_reducible exact fr_asInt .. | with_reducible exact fr_asIntOf .. | with_reducible exact fr_boundsPanic .. | with_reducible exact fr_runtimePanic .. | with_reducible exact fr_part .. | with_reducible exact fr_elemOf .. | with_reducible exact fr_newVar .. | with_reducible exact fr_newRow .. | with_reducible exact fr_storeVar .. | with_reducible exact fr_loadVar .. | with_reducible exact fr_loadCells .. | with_reducible exact fr_storeCells .. | with_reducible exact fr_loadCellsFrom .. | with_reducible exact fr_isAgg .. | with_reducible exact fr_sizeOf .. | with_reducible exact fr_zeroValue .. | with_reducible exact fr_typeStr .. | with_reducible exact fr_underlying .. | with_reducible exact fr_typeInfo .. | with_reducible exact fr_behindNumber .. | with_reducible exact fr_asNumber .. | with_reducible exact fr_newNumber .. | with_reducible exact fr_newCells .. | with_reducible exact fr_numberAt .. | with_reducible exact fr_noView .. | with_reducible exact fr_askRoom .. | with_reducible exact fr_goPanic .. | with_reducible exact fr_unsupported .. | with_reducible exact fr_stuck .. | with_reducible exact fr_noRoom .. | with_reducible exact fr_program .. | with_reducible exact fr_choose .. | with_reducible exact fr_store .. | with_reducible exact fr_load .. | with_reducible exact FR.pure _ | with_reducible exact FR.halt _ | with_reducible assumption | with_reducible refine fr_shapeE (fun _ _ _ => rfl) (fun _ => ?_) | with_reducible apply FR.map | with_reducible apply FR.bind | with_reducible apply FR.array | with_reducible apply FR.range | with_reducible apply FR.arrayMapM | with_reducible apply FR.list | with_reducible apply FR.listM | with_reducible refine FR.ite ?_ ?_ | split | with_reducible intro _ | (dsimp only)
theorem fr_firstCells (a b : Nat) (x : Value) : FR P (Builtin.firstCells a b x) := by
  unfold Builtin.firstCells
  repeat first | with_reducible exact fr_lenOf .. | with_reducible exact fr_floatToFloat .. | with_reducible exact fr_floatToInt .. | with_reducible exact fr_intToFloat .. | with_reducible exact fr_intToInt .. | with_reducible exact fr_unary .. | with_reducible exact fr_floatCmp .. | with_reducible exact fr_floatArith .. | with_reducible exact fr_intCmp .. | with_reducible exact fr_shift .. | with_reducible exact fr_intBits .. | with_reducible exact fr_intDiv .. | with_reducible exact fr_intArith .. | with_reducible exact fr_makeFunc .. | with_reducible exact fr_extract .. | with_reducible exact fr_makeSlice .. | with_reducible exact fr_indexAt .. | with_reducible exact fr_box .. | with_reducible exact fr_alloc .. | with_reducible exact fr_storeAt .. | with_reducible exact fr_loadAt .. | with_reducible exact fr_sureAddr .. | with_reducible exact fr_asAddr .. | with_reducible exact fr_asBool .. | with_reducible exact fr_asInt .. | with_reducible exact fr_asIntOf .. | with_reducible exact fr_boundsPanic .. | with_reducible exact fr_runtimePanic .. | with_reducible exact fr_part .. | with_reducible exact fr_elemOf .. | with_reducible exact fr_newVar .. | with_reducible exact fr_newRow .. | with_reducible exact fr_storeVar .. | with_reducible exact fr_loadVar .. | with_reducible exact fr_loadCells .. | with_reducible exact fr_storeCells .. | with_reducible exact fr_loadCellsFrom .. | with_reducible exact fr_isAgg .. | with_reducible exact fr_sizeOf .. | with_reducible exact fr_zeroValue .. | with_reducible exact fr_typeStr .. | with_reducible exact fr_underlying .. | with_reducible exact fr_typeInfo .. | with_reducible exact fr_behindNumber .. | with_reducible exact fr_asNumber .. | with_reducible exact fr_newNumber .. | with_reducible exact fr_newCells .. | with_reducible exact fr_numberAt .. | with_reducible exact fr_noView .. | with_reducible exact fr_askRoom .. | with_reducible exact fr_goPanic .. | with_reducible exact fr_unsupported .. | with_reducible exact fr_stuck .. | with_reducible exact fr_noRoom .. | with_reducible exact fr_program .. | with_reducible exact fr_choose .. | with_reducible exact fr_store .. | with_reducible exact fr_load .. | with_reducible exact FR.pure _ | with_reducible exact FR.halt _ | with_reducible assumption | with_reducible refine fr_shapeE (fun _ _ _ => rfl) (fun _ => ?_) | with_reducible apply FR.map | with_reducible apply FR.bind | with_reducible apply FR.array | with_reducible apply FR.range | with_reducible apply FR.arrayMapM | with_reducible apply FR.list | with_reducible apply FR.listM | with_reducible refine FR.ite ?_ ?_ | split | with_reducible intro _ | (dsimp only)
theorem fr_stringOp (op : BinOp) (x y : ByteArray) : FR P (Op.stringOp op x y) := by
  unfold Op.stringOp
  repeat first | with_reducible exact fr_firstCells .. | with_reducible exact fr_lenOf .. | with_reducible exact fr_floatToFloat .. | with_reducible exact fr_floatToInt .. | with_reducible exact fr_intToFloat .. | with_reducible exact fr_intToInt .. | with_reducible exact fr_unary .. | with_reducible exact fr_floatCmp .. | with_reducible exact fr_floatArith .. | with_reducible exact fr_intCmp .. | with_reducible exact fr_shift .. | with_reducible exact fr_intBits .. | with_reducible exact fr_intDiv .. | with_reducible exact fr_intArith .. | with_reducible exact fr_makeFunc .. | with_reducible exact fr_extract .. | with_reducible exact fr_makeSlice .. | with_reducible exact fr_indexAt .. | with_reducible exact fr_box .. | with_reducible exact fr_alloc .. | with_reducible exact fr_storeAt .. | with_reducible exact fr_loadAt .. | with_reducible exact fr_sureAddr .. | with_reducible exact fr_asAddr .. | with_reducible exact fr_asBool .. | with_reducible exact fr_asInt .. | with_reducible exact fr_asIntOf .. | with_reducible exact fr_boundsPanic .. | with_reducible exact fr_runtimePanic .. | with_reducible exact fr_part .. | with_reducible exact fr_elemOf .. | with_reducible exact fr_newVar .. | with_reducible exact fr_newRow .. | with_reducible exact fr_storeVar .. | with_reducible exact fr_loadVar .. | with_reducible exact fr_loadCells .. | with_reducible exact fr_storeCells .. | with_reducible exact fr_loadCellsFrom .. | with_reducible exact fr_isAgg .. | with_reducible exact fr_sizeOf .. | with_reducible exact fr_zeroValue .. | with_reducible exact fr_typeStr .. | with_reducible exact fr_underlying .. | with_reducible exact fr_typeInfo .. | with_reducible exact fr_behindNumber .. | with_reducible exact fr_asNumber .. | with_reducible exact fr_newNumber .. | with_reducible exact fr_newCells .. | with_reducible exact fr_numberAt .. | with_reducible exact fr_noView .. | with_reducible exact fr_askRoom .. | with_reducible exact fr_goPanic .. | with_reducible exact fr_unsupported .. | with_reducible exact fr_stuck .. | with_reducible exact fr_noRoom .. | with_reducible exact fr_program .. | with_reducible exact fr_choose .. | with_reducible exact fr_store .. | with_reducible exact fr_load .. | with_reducible exact FR.pure _ | with_reducible exact FR.halt _ | with_reducible assumption | with_reducible refine fr_shapeE (fun _ _ _ => rfl) (fun _ => ?_) | with_reducible apply FR.map | with_reducible apply FR.bind | with_reducible apply FR.array | with_reducible apply FR.range | with_reducible apply FR.arrayMapM | with_reducible apply FR.list | with_reducible apply FR.listM | with_reducible refine FR.ite ?_ ?_ | split | with_reducible intro _ | (dsimp only)
theorem fr_min2 (x y : Value) : FR P (Builtin.min2 x y) := by
  unfold Builtin.min2
  repeat first | with_reducible exact fr_stringOp .. | with_reducible exact fr_firstCells .. | with_reducible exact fr_lenOf .. | with_reducible exact fr_floatToFloat .. | with_reducible exact fr_floatToInt .. | with_reducible exact fr_intToFloat .. | with_reducible exact fr_intToInt .. | with_reducible exact fr_unary .. | with_reducible exact fr_floatCmp .. | with_reducible exact fr_floatArith .. | with_reducible exact fr_intCmp .. | with_reducible exact fr_shift .. | with_reducible exact fr_intBits .. | with_reducible exact fr_intDiv .. | with_reducible exact fr_intArith .. | with_reducible exact fr_makeFunc .. | with_reducible exact fr_extract .. | with_reducible exact fr_makeSlice .. | with_reducible exact fr_indexAt .. | with_reducible exact fr_box .. | with_reducible exact fr_alloc .. | with_reducible exact fr_storeAt .. | with_reducible exact fr_loadAt .. | with_reducible exact fr_sureAddr .. | with_reducible exact fr_asAddr .. | with_reducible exact fr_asBool .. | with_reducible exact fr_asInt .. | with_reducible exact fr_asIntOf .. | with_reducible exact fr_boundsPanic .. | with_reducible exact fr_runtimePanic .. | with_reducible exact fr_part .. | with_reducible exact fr_elemOf .. | with_reducible exact fr_newVar .. | with_reducible exact fr_newRow .. | with_reducible exact fr_storeVar .. | with_reducible exact fr_loadVar .. | with_reducible exact fr_loadCells .. | with_reducible exact fr_storeCells .. | with_reducible exact fr_loadCellsFrom .. | with_reducible exact fr_isAgg .. | with_reducible exact fr_sizeOf .. | with_reducible exact fr_zeroValue .. | with_reducible exact fr_typeStr .. | with_reducible exact fr_underlying .. | with_reducible exact fr_typeInfo .. | with_reducible exact fr_behindNumber .. | with_reducible exact fr_asNumber .. | with_reducible exact fr_newNumber .. | with_reducible exact fr_newCells .. | with_reducible exact fr_numberAt .. | with_reducible exact fr_noView .. | with_reducible exact fr_askRoom .. | with_reducible exact fr_goPanic .. | with_reducible exact fr_unsupported .. | with_reducible exact fr_stuck .. | with_reducible exact fr_noRoom .. | with_reducible exact fr_program .. | with_reducible exact fr_choose .. | with_reducible exact fr_store .. | with_reducible exact fr_load .. | with_reducible exact FR.pure _ | with_reducible exact FR.halt _ | with_reducible assumption | with_reducible refine fr_shapeE (fun _ _ _ => rfl) (fun _ => ?_) | with_reducible apply FR.map | with_reducible apply FR.bind | with_reducible apply FR.array | with_reducible apply FR.range | with_reducible apply FR.arrayMapM | with_reducible apply FR.list | with_reducible apply FR.listM | with_reducible refine FR.ite ?_ ?_ | split | with_reducible intro _ | (dsimp only)
theorem fr_min (t : Array TypeId) (u : TypeId) (x : Array Value) : FR P (Builtin.min_ t u x) := by
  unfold Builtin.min_
  repeat first | with_reducible exact fr_min2 .. | with_reducible exact fr_stringOp .. | with_reducible exact fr_firstCells .. | with_reducible exact fr_lenOf .. | with_reducible exact fr_floatToFloat .. | with_reducible exact fr_floatToInt .. | with_reducible exact fr_intToFloat .. | with_reducible exact fr_intToInt .. | with_reducible exact fr_unary .. | with_reducible exact fr_floatCmp .. | with_reducible exact fr_floatArith .. | with_reducible exact fr_intCmp .. | with_reducible exact fr_shift .. | with_reducible exact fr_intBits .. | with_reducible exact fr_intDiv .. | with_reducible exact fr_intArith .. | with_reducible exact fr_makeFunc .. | with_reducible exact fr_extract .. | with_reducible exact fr_makeSlice .. | with_reducible exact fr_indexAt .. | with_reducible exact fr_box .. | with_reducible exact fr_alloc .. | with_reducible exact fr_storeAt .. | with_reducible exact fr_loadAt .. | with_reducible exact fr_sureAddr .. | with_reducible exact fr_asAddr .. | with_reducible exact fr_asBool .. | with_reducible exact fr_asInt .. | with_reducible exact fr_asIntOf .. | with_reducible exact fr_boundsPanic .. | with_reducible exact fr_runtimePanic .. | with_reducible exact fr_part .. | with_reducible exact fr_elemOf .. | with_reducible exact fr_newVar .. | with_reducible exact fr_newRow .. | with_reducible exact fr_storeVar .. | with_reducible exact fr_loadVar .. | with_reducible exact fr_loadCells .. | with_reducible exact fr_storeCells .. | with_reducible exact fr_loadCellsFrom .. | with_reducible exact fr_isAgg .. | with_reducible exact fr_sizeOf .. | with_reducible exact fr_zeroValue .. | with_reducible exact fr_typeStr .. | with_reducible exact fr_underlying .. | with_reducible exact fr_typeInfo .. | with_reducible exact fr_behindNumber .. | with_reducible exact fr_asNumber .. | with_reducible exact fr_newNumber .. | with_reducible exact fr_newCells .. | with_reducible exact fr_numberAt .. | with_reducible exact fr_noView .. | with_reducible exact fr_askRoom .. | with_reducible exact fr_goPanic .. | with_reducible exact fr_unsupported .. | with_reducible exact fr_stuck .. | with_reducible exact fr_noRoom .. | with_reducible exact fr_program .. | with_reducible exact fr_choose .. | with_reducible exact fr_store .. | with_reducible exact fr_load .. | with_reducible exact FR.pure _ | with_reducible exact FR.halt _ | with_reducible assumption | with_reducible refine fr_shapeE (fun _ _ _ => rfl) (fun _ => ?_) | with_reducible apply FR.map | with_reducible apply FR.bind | with_reducible apply FR.array | with_reducible apply FR.range | with_reducible apply FR.arrayMapM | with_reducible apply FR.list | with_reducible apply FR.listM | with_reducible refine FR.ite ?_ ?_ | split | with_reducible intro _ | (dsimp only)
theorem fr_len (t : Array TypeId) (u : TypeId) (x : Array Value) : FR P (Builtin.len_ t u x) := by
  unfold Builtin.len_
  repeat first | with_reducible exact fr_min .. | with_reducible exact fr_min2 .. | with_reducible exact fr_stringOp .. | with_reducible exact fr_firstCells .. | with_reducible exact fr_lenOf .. | with_reducible exact fr_floatToFloat .. | with_reducible exact fr_floatToInt .. | with_reducible exact fr_intToFloat .. | with_reducible exact fr_intToInt .. | with_reducible exact fr_unary .. | with_reducible exact fr_floatCmp .. | with_reducible exact fr_floatArith .. | with_reducible exact fr_intCmp .. | with_reducible exact fr_shift .. | with_reducible exact fr_intBits .. | with_reducible exact fr_intDiv .. | with_reducible exact fr_intArith .. | with_reducible exact fr_makeFunc .. | with_reducible exact fr_extract .. | with_reducible exact fr_makeSlice .. | with_reducible exact fr_indexAt .. | with_reducible exact fr_box .. | with_reducible exact fr_alloc .. | with_reducible exact fr_storeAt .. | with_reducible exact fr_loadAt .. | with_reducible exact fr_sureAddr .. | with_reducible exact fr_asAddr .. | with_reducible exact fr_asBool .. | with_reducible exact fr_asInt .. | with_reducible exact fr_asIntOf .. | with_reducible exact fr_boundsPanic .. | with_reducible exact fr_runtimePanic .. | with_reducible exact fr_part .. | with_reducible exact fr_elemOf .. | with_reducible exact fr_newVar .. | with_reducible exact fr_newRow .. | with_reducible exact fr_storeVar .. | with_reducible exact fr_loadVar .. | with_reducible exact fr_loadCells .. | with_reducible exact fr_storeCells .. | with_reducible exact fr_loadCellsFrom .. | with_reducible exact fr_isAgg .. | with_reducible exact fr_sizeOf .. | with_reducible exact fr_zeroValue .. | with_reducible exact fr_typeStr .. | with_reducible exact fr_underlying .. | with_reducible exact fr_typeInfo .. | with_reducible exact fr_behindNumber .. | with_reducible exact fr_asNumber .. | with_reducible exact fr_newNumber .. | with_reducible exact fr_newCells .. | with_reducible exact fr_numberAt .. | with_reducible exact fr_noView .. | with_reducible exact fr_askRoom .. | with_reducible exact fr_goPanic .. | with_reducible exact fr_unsupported .. | with_reducible exact fr_stuck .. | with_reducible exact fr_noRoom .. | with_reducible exact fr_program .. | with_reducible exact fr_choose .. | with_reducible exact fr_store .. | with_reducible exact fr_load .. | with_reducible refine fr_getObj_bind (fun _ _ _ _ _ h => by simp [stuck] at h) (fun _ => ?_) | with_reducible exact FR.pure _ | with_reducible exact FR.halt _ | with_reducible assumption | with_reducible refine fr_shapeE (fun _ _ _ => rfl) (fun _ => ?_) | with_reducible apply FR.map | with_reducible apply FR.bind | with_reducible apply FR.array | with_reducible apply FR.range | with_reducible apply FR.arrayMapM | with_reducible apply FR.list | with_reducible apply FR.listM | with_reducible refine FR.ite ?_ ?_ | split | with_reducible intro _ | (dsimp only)
end
end Go.Proofs.Ytgeflnjjppgooaa
