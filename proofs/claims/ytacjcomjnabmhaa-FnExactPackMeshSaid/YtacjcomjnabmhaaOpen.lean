/- Arguments of nested kinds, opened. -/
import Derived.Test.YtacjcomjnabmhaaShut
import Derived.Test.YtacjcomjnabmhaaNest
namespace Go.Proofs.Ytacjcomjnabmhaa
open Go.RowKit Go.ChangeShapes Go.WideShapes Go.Deep

section
variable {H : Type} {enc : TypeId × Value → H} {P : Program} {w : World} {base : Nat} {spare : Nat → Bool} {held : Bool}

theorem trod_fls {k : FloatKind} {t e : TypeId} {fuel : Nat} {cs : List Value} {x : DataW H × List MemPlace} (ht : P.underlying t = some (.slice e)) (he : P.underlying e = some (.float k)) (hc : P.cellsOf e = 1)
    (hd : DataW.trod enc P w base spare held fuel t cs = some x) :
    ∃ (a : Option Addr) (xs : List Nat) (c : Nat), cs = [.slice a xs.length c] ∧ Cl w a (xs.map (Value.float k)) ∧ (∀ x ∈ xs, Can k x) ∧ xs.length ≤ 9223372036854775807 := by
  rcases open_slice1 ht hc hd with ⟨h, _⟩ | ⟨a', len', cap', m, n, V, D, Pl, h, hb, hlc, hm, rfl, hx, hV⟩
  · exact ⟨none, [], 0, h, .inl rfl, by simp, by simp⟩
  · have hm' : len' ≤ (if spare a'.block then cap' else len') := by split <;> omega
    have hfl : ∀ i, i < len' → ∃ b, V i = .float k b ∧ b < 2 ^ k.format.width := by
      intro i hi
      have := (hV i (by omega)).2
      cases n with
      | zero => simp [DataW.trod] at this
      | succ n =>
        simp only [DataW.trod, he] at this
        revert this
        cases V i <;> simp
        intro h1 h2; intros; subst h1; exact ⟨_, ⟨rfl, rfl⟩, wf_lt h2⟩
    obtain ⟨B, hB⟩ := choose_lt hfl
    refine ⟨some a', (List.range len').map (fun i => cb k (B i)), cap', by simp [h], ?_, ?_, ?_⟩
    · by_cases h0 : len' = 0
      · subst h0; exact .inl rfl
      · have hsp : a'.spot = none := by
          have := (hV 0 (by omega)).1
          simpa [Addr.add] using World.cell?_spot this
        obtain ⟨bk, off, spot⟩ := a'
        simp only at hsp
        subst hsp
        refine .inr ⟨_, rfl, rfl, fun i u hu => ?_⟩
        simp only [List.getElem?_map, Option.map_eq_some_iff, List.map_map] at hu
        obtain ⟨j, hj, rfl⟩ := hu
        obtain ⟨hlt, rfl⟩ := List.getElem?_eq_some_iff.1 hj
        simp only [List.length_range] at hlt
        have h1 := (hV i (by omega)).1
        rw [add_plain] at h1
        refine ⟨V i, h1, ?_⟩
        rw [(hB i hlt).1]
        simp [cn, cn1, cn0]
    · intro x hx
      obtain ⟨i, hi, rfl⟩ := List.mem_map.1 hx
      exact can_cb k (hB i (by simpa using hi)).2
    · have hml : maxLen ≤ 9223372036854775807 := by decide
      simp; omega

theorem trod_rows {t e q : TypeId} {fuel : Nat} {cs : List Value} {x : DataW H × List MemPlace} (ht : P.underlying t = some (.slice e)) (he : P.underlying e = some (.slice q)) (hq : P.underlying q = some (.float .f32)) (hc : P.cellsOf e = 1) (hcq : P.cellsOf q = 1)
    (hdd : DataW.trod enc P w base spare held fuel t cs = some x) :
    ∃ (a : Option Addr) (f : Nat → Option Addr × Nat) (xss : List (List Nat)) (c : Nat), cs = [.slice a xss.length c] ∧ Cl w a (hd f xss) ∧ Rws w f xss ∧ Cans xss ∧ xss.length ≤ 9223372036854775807 ∧ ∀ i, i < xss.length → (xss.getD i []).length ≤ 9223372036854775807 := by
  rcases open_slice1 ht hc hdd with ⟨h, _⟩ | ⟨a', len', cap', m, n, V, D, Pl, h, hb, hlc, hm, rfl, hx, hV⟩
  · exact ⟨none, fun _ => (none, 0), [], 0, h, .inl rfl, fun i hi => by simp at hi, fun xs hxs => by simp at hxs, by simp, fun i hi => by simp at hi⟩
  · have hm' : len' ≤ (if spare a'.block then cap' else len') := by split <;> omega
    have hrow : ∀ i, i < len' → ∃ r : (Option Addr × Nat) × List Nat, V i = .slice r.1.1 r.2.length r.1.2 ∧ Cl w r.1.1 (fl r.2) ∧ (∀ x ∈ r.2, Can .f32 x) ∧ r.2.length ≤ 9223372036854775807 := by
      intro i hi
      obtain ⟨a, xs, c, h1, h2, h3, h4⟩ := trod_fls he hq hcq (hV i (by omega)).2
      exact ⟨((a, c), xs), by simpa using h1, h2, h3, h4⟩
    obtain ⟨R, hR⟩ := choose_lt hrow
    have hget : ∀ i, i < len' → ((List.range len').map (fun i => (R i).2)).getD i [] = (R i).2 := fun i hi => by simp [List.getD, hi]
    refine ⟨some a', fun i => (R i).1, (List.range len').map (fun i => (R i).2), cap', by simp [h], ?_, ?_, ?_, ?_, ?_⟩
    · by_cases h0 : len' = 0
      · subst h0; exact .inl rfl
      · have hsp : a'.spot = none := by
          have := (hV 0 (by omega)).1
          simpa [Addr.add] using World.cell?_spot this
        obtain ⟨bk, off, spot⟩ := a'
        simp only at hsp
        subst hsp
        refine .inr ⟨_, rfl, rfl, fun i u hu => ?_⟩
        have hlt : i < len' := by
          have := (List.getElem?_eq_some_iff.1 hu).1
          simpa [hd_length] using this
        rw [hd_get (by simpa using hlt), Option.some.injEq] at hu
        have h1 := (hV i (by omega)).1
        rw [add_plain] at h1
        refine ⟨V i, h1, ?_⟩
        rw [(hR i hlt).1, ← hu, hget i hlt]
        rfl
    · intro i hi
      have hi' : i < len' := by simpa using hi
      rw [hget i hi']
      exact (hR i hi').2.1
    · intro xs hxs
      obtain ⟨i, hi, rfl⟩ := List.mem_map.1 hxs
      exact (hR i (by simpa using hi)).2.2.1
    · have hml : maxLen ≤ 9223372036854775807 := by decide
      simp; omega
    · intro i hi
      have hi' : i < len' := by simpa using hi
      rw [hget i hi']
      exact (hR i hi').2.2.2

/-- A struct's field, by its cells. -/
theorem trod_field {t : TypeId} {fs : Array Field} {fuel : Nat} {cs : List Value} {x : DataW H × List MemPlace} (ht : P.underlying t = some (.struct fs)) (h : DataW.trod enc P w base spare held fuel t cs = some x) :
    cs.length = P.cellsOf t ∧ ∀ (i : Nat) (fd : Field), fs[i]? = some fd → ∃ y n, DataW.trod enc P w base spare held n fd.type ((cs.drop fd.offset).take (P.cellsOf fd.type)) = some y := by
  obtain ⟨xs, n, _, rfl, hl, hlen, hf⟩ := DataW.trod_struct ht h
  refine ⟨hl, fun i fd hi => ?_⟩
  have h1 := hf i fd hi
  have hlt : i < xs.length := by
    have := (Array.getElem?_eq_some_iff.1 hi).1
    omega
  rw [List.getElem?_eq_getElem hlt] at h1
  exact ⟨_, n, h1⟩
end
end Go.Proofs.Ytacjcomjnabmhaa
