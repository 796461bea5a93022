/- Bytes, texts: a slice of bytes made a text, a text's parts and bytes, a conversion to the slice's own type; the greater of two numbers. -/
import Derived.Test.YtacjcomjnabmhaaSlice
import Derived.Laws.BytesString
namespace Go.Proofs.Ytacjcomjnabmhaa
open Go.RowKit

/-- bytes in memory; a text of bytes -/
def bl (bs : List Int) : List Value := bs.map (Value.int .u8)
def stb (bs : List Int) : ByteArray := ⟨(bs.map fun n => UInt8.ofNat n.toNat).toArray⟩
theorem bl_length (bs : List Int) : (bl bs).length = bs.length := by simp [bl]
theorem bl_scal (bs : List Int) : (bl bs).all scal = true := by
  rw [List.all_eq_true]
  intro v hv
  obtain ⟨b, _, rfl⟩ := List.mem_map.1 hv
  rfl
theorem bl_append (xs ys : List Int) : bl xs ++ bl ys = bl (xs ++ ys) := by simp [bl]
theorem stb_size (bs : List Int) : (stb bs).size = bs.length := by simp [stb, ByteArray.size]

theorem pushes (bs : List Int) : ∀ s : ByteArray, bs.foldl (fun r n => r.push (UInt8.ofNat n.toNat)) s = ⟨s.data ++ (bs.map fun n => UInt8.ofNat n.toNat).toArray⟩ := by
  induction bs with
  | nil => intro s; simp
  | cons b bs ih =>
    intro s
    rw [List.foldl_cons, ih]
    simp [ByteArray.push]

/-- two texts compared -/
def scmp (op : BinOp) (a b : ByteArray) : Bool := match op with | .eql => a.toList == b.toList | _ => !(a.toList == b.toList)
@[simp] theorem scmp_ne_self (a : ByteArray) : scmp .neq a a = false := by simp [scmp]
@[simp] theorem scmp_eq_self (a : ByteArray) : scmp .eql a a = true := by simp [scmp]
section
variable {P : Program} {w0 : World} {O : List Ent} {E : Env} {o : Oper}
theorem yr_scmp {op : BinOp} {t ty : TypeId} {x y : Operand} {a b : ByteArray} (ho : o.op = .binOp op t x y ty) (hx : E.opd x = some (.string a)) (hy : E.opd y = some (.string b)) (hop : op = .eql ∨ op = .neq) : YR P E o (.bool (scmp op a b)) := yr_of fun ρ w hE => by
  have h1 := cn_string (hE.get (x := x) (by simp [ho, Op.operands]) hx)
  have h2 := cn_string (hE.get (x := y) (by simp [ho, Op.operands]) hy)
  refine ⟨.bool (scmp op a b), ?_, rfl⟩
  rcases hop with rfl | rfl <;> simp [execOp, ho, h1, h2, eqGuard, binOp, Op.stringOp, scmp]
/-- string(bytes) -/
theorem yq_bts {src dst e : TypeId} {x : Operand} {a : Option Addr} {m c : Nat} {bs : List Int} (ho : o.op = .convert src dst x) (hs : P.underlying src = some (.slice e)) (he : P.underlying e = some (.int .u8)) (hd : P.underlying dst = some .string)
    (hx : E.opd x = some (.slice a m c)) (hsee : Sees w0 O a (bl bs)) (hm : m = bs.length) : YQ P w0 O E o (.string (stb bs)) := by
  subst hm
  intro ρ w hE hw
  have e1 := cn_slice (hE.get (x := x) (by simp [ho, Op.operands]) hx)
  have key : (Conv.bytesToString (.slice a bs.length c)).run P w = .ok (.string (stb bs)) w := by
    cases bs with
    | nil =>
      cases a with
      | none => simp [Conv.bytesToString, stb]; rfl
      | some p =>
        have h0 : (Conv.bytesToString (.slice (some p) 0 c)).run P w = _ := run_bytesToString w p 0 c [] (by simp [loadCells, loadCellsFrom])
        exact h0
    | cons b bs =>
      rcases hsee w hw with h | ⟨p, rfl, hsp, h⟩
      · cases h
      · have hcl : Cl w (some p) (bl (b :: bs)) := .inr ⟨p, rfl, hsp, h⟩
        obtain ⟨vs, h1, h2, h3⟩ := hcl.cellsN (bl (b :: bs)) 0 (fun j u hj => by simpa using hj)
        have hvs : vs = (bl (b :: bs)) := by
          apply List.ext_getElem?
          intro j
          have h4 := congrArg (fun l => l[j]?) h3
          simp only [List.getElem?_map] at h4
          cases hv : vs[j]? with
          | none => rw [hv] at h4; simpa using h4
          | some v =>
            rw [hv] at h4
            simp only [Option.map_some, bl, List.getElem?_map] at h4 ⊢
            cases hb : (b :: bs)[j]? with
            | none => rw [hb] at h4; cases h4
            | some y =>
              rw [hb] at h4
              simp only [Option.map_some, Option.some.injEq] at h4 ⊢
              exact cn_int h4
        have hload := run_loadCells_adr (P := P) (w := w) (a := some p) (k := 0) vs h2
        have hp : adr (some p) 0 = p := by
          obtain ⟨pb, po, ps⟩ := p
          simp only at hsp
          subst hsp
          simp [adr]
        rw [hp, h1, bl_length] at hload
        have hl' : (loadCells p (b :: bs).length).run P w = .ok ((b :: bs).map (Value.int .u8)).toArray w := by
          rw [hload, hvs]; rfl
        rw [run_bytesToString w p _ c _ hl', pushes]
        simp [stb]
  have hr : (execOp ρ o).run P w = .ok (.value (.string (stb bs))) w := by
    simp [execOp, ho, e1, run_convert_bytes_string w src dst e a _ c hs he hd, key]
  rw [hr]
  exact ⟨by simp [cn, cn1, cn0], Below.refl _ _⟩

theorem Frz.freeze {w : World} {b : Nat} {c : Array Value} {ty : TypeId} (h : Frz w b c ty) : Frz (w.freeze ⟨b, c.size, none⟩ 1) b c ty := by
  obtain ⟨z, h, hz⟩ := h
  refine ⟨(c.size, c.size + 1), ?_, .inr rfl⟩
  unfold World.freeze
  rw [if_neg (by decide)]
  simp only [Array.getElem?_modify, h]
  rcases hz with rfl | rfl
  · simp
  · simp
theorem freeze_other {w : World} {b n k : Nat} (hk : k ≠ b) : (w.freeze ⟨b, n, none⟩ 1).heap[k]? = w.heap[k]? := by
  unfold World.freeze
  rw [if_neg (by decide)]
  simp only [Array.getElem?_modify]
  rw [if_neg (fun h => hk h.symm)]
theorem Hp.freeze {w : World} {b : Nat} {c : Array Value} {ty : TypeId} (hw : Hp w0 O w) (hb : w0.heap.size ≤ b) (h : Frz w b c ty) : Hp w0 O (w.freeze ⟨b, c.size, none⟩ 1) := by
  have ht : Turns w b (w.freeze ⟨b, c.size, none⟩ 1) := by
    refine ⟨?_, ?_, ?_, ?_, fun k _ hk => freeze_other hk⟩ <;> (unfold World.freeze; rw [if_neg (by decide)])
    simp
  refine ⟨Below.of_turns hw.below ht hb, fun e he => ?_, hw.apart⟩
  rcases hw.ents e he with h1 | ⟨b', c', h1, h2, h3, h4⟩
  · exact .inl h1
  · refine .inr ⟨b', c', h1, h2, ?_, h4⟩
    by_cases hbb : b' = b
    · subst hbb
      have hcc : c' = c ∧ e.ty = ty := by
        obtain ⟨z, g1, _⟩ := h
        obtain ⟨z', g2, _⟩ := h3
        rw [g1] at g2
        injection g2 with g2
        injection g2 with g2 g3
        exact ⟨g2.symm, g3.symm⟩
      rw [hcc.1, hcc.2]
      exact h.freeze
    · exact h3.same (freeze_other hbb)
/-- []byte("..."): the row's conversion to its own type -/
theorem yc_own8 {t e : TypeId} {x : Operand} {b m c cap : Nat} {us : List Value} {ty : TypeId} (ho : o.op = .convert t t x) (ht : P.underlying t = some (.slice e)) (he : P.underlying e = some (.int .u8))
    (hx : E.opd x = some (.slice (some ⟨b, 0, none⟩) m c)) (hO : (⟨some ⟨b, 0, none⟩, us, cap, ty⟩ : Ent) ∈ O) (hc : cap ≠ 0) : YC P w0 O E o (fun _ : Unit => .slice (some ⟨b, 0, none⟩) m c) (fun _ => O) := by
  intro ρ w F hE hw
  have e1 := cn_slice (hE.get (x := x) (by simp [ho, Op.operands]) hx)
  rcases hw.ents _ (List.mem_append_right F hO) with h | ⟨b', c', h1, h2, h3, h4⟩
  · exact absurd h.2 hc
  · simp only [Option.some.injEq, Addr.mk.injEq, and_true] at h1
    subst h1
    have hsh : w.shape? b = some (ty, c'.size) := by
      obtain ⟨z, g, _⟩ := h3
      simp [World.shape?, g]
    have hr : (execOp ρ o).run P w = .ok (.value (.slice (some ⟨b, 0, none⟩) m c)) (w.freeze ⟨b, c'.size, none⟩ 1) := by
      simp [execOp, ho, e1, convert, run_underlying ht, run_underlying he, markStringish, hsh]
    rw [hr]
    exact ⟨(), by simp [cn, cn1, cn0], hw.freeze h2 h3⟩
end
end Go.Proofs.Ytacjcomjnabmhaa
