/- Own texts of this claim, merged: Cut, Jour, Jo, Jn, Cell, Open, OpenW, Desk, Dt, WDesign, WSameN, Shelf, WCo, WJr, WDt. -/
import Derived.Lib.Split
import Derived.Lib.IndexBytes
import Derived.Lib.ItoaNum
import Derived.Lib.IndexMore
import Derived.Lib.LaidTab
import Derived.Lib.CleanWalkFns
import Derived.Lib.AppendIntMem
import Derived.Laws.Strings
import Derived.KernelRfl
import Derived.Shelf.Strings.Builder1
import Derived.Shelf.Small.Strs
import Derived.Shelf.Strings.BuilderF
import Derived.Shelf.Utf8.RuneCount
import Derived.Shelf.Strconv.Itoa0
import Derived.Shelf.Strconv.Itoa1
import Derived.Shelf.LaysM
import Derived.Shelf.Strconv.Itoa2
import Derived.Shelf.Strconv.Itoa3
import Derived.Shelf.Strconv.Itoa4
import Derived.Shelf.Strings.Search1
import Derived.Shelf.Strings.Search2
import Derived.Shelf.Strings.Search3
import Derived.Shelf.Strings.Cut
import Derived.Shelf.Strings.Count
import Derived.Shelf.Strings.Shaped
import Derived.Shelf.Strings.Split
import Derived.Shelf.Strings.SplitShaped
import Derived.Shelf.Unicode.Decode
import Derived.Shelf.Strings.RuneCount
import Derived.Shelf.Strings.Explode
import Derived.Shelf.Unicode.DecodeSlow
import Derived.Shelf.Unicode.DecodeAny
import Derived.Test.YtmecikeaogjmpaaDoorProg
import Derived.Test.YtmecikeaogjmpaaDoorKFnJournal2
namespace Go.Proofs.YtmecikeaogjmpaaDoor
open Go.RowKit Go.Lib

/-- The pieces of a list between the bytes c. -/
def cutL (c : UInt8) : List UInt8 → List (List UInt8)
  | [] => [[]]
  | x :: l => if x = c then [] :: cutL c l else match cutL c l with
    | p :: ps => (x :: p) :: ps
    | [] => [[x]]
theorem cutL_ne (c : UInt8) (l : List UInt8) : cutL c l ≠ [] := by
  cases l with
  | nil => simp [cutL]
  | cons x l => rw [cutL]; split; simp; split <;> simp
theorem cutL_hit {c : UInt8} : ∀ {p r : List UInt8}, c ∉ p → cutL c (p ++ c :: r) = p :: cutL c r
  | [], r, _ => by rw [List.nil_append, cutL, if_pos rfl]
  | x :: p, r, h => by
    simp only [List.mem_cons, not_or] at h
    rw [List.cons_append, cutL, if_neg (fun e => h.1 e.symm), cutL_hit h.2]
theorem cutL_miss {c : UInt8} : ∀ {p : List UInt8}, c ∉ p → cutL c p = [p]
  | [], _ => rfl
  | x :: p, h => by
    simp only [List.mem_cons, not_or] at h
    rw [cutL, if_neg (fun e => h.1 e.symm), cutL_miss h.2]
theorem index_parts {c : UInt8} : ∀ {s : List UInt8} {i : Nat}, indexByte s c = i → ∃ p r, s = p ++ c :: r ∧ p.length = i ∧ c ∉ p
  | [], i, h => by simp [indexByte] at h <;> omega
  | x :: s, i, h => by
    rw [indexByte] at h
    split at h
    · rename_i e
      have e' : x = c := by simpa using e
      subst e'
      exact ⟨[], s, rfl, by simp; omega, by simp⟩
    · rename_i e
      have e' : x ≠ c := by simpa using e
      split at h
      · omega
      · rename_i e2
        have hge := indexByte_ge s c
        have e3 : indexByte s c ≠ -1 := by simpa using e2
        obtain ⟨j, hj⟩ : ∃ j : Nat, indexByte s c = j := ⟨(indexByte s c).toNat, by omega⟩
        obtain ⟨p, r, h1, h2, h3⟩ := index_parts hj
        refine ⟨x :: p, r, by rw [h1]; rfl, by simp only [List.length_cons]; omega, ?_⟩
        simp only [List.mem_cons, not_or]
        exact ⟨fun e => e' e.symm, h3⟩
theorem index_none {c : UInt8} : ∀ {s : List UInt8}, indexByte s c = -1 → c ∉ s
  | [], _ => by simp
  | x :: s, h => by
    rw [indexByte] at h
    split at h
    · omega
    · rename_i e
      have e' : x ≠ c := by simpa using e
      split at h
      · rename_i e2
        simp only [List.mem_cons, not_or]
        exact ⟨fun e => e' e.symm, index_none (by simpa using e2)⟩
      · have := indexByte_ge s c
        omega
/-- The pieces of a text between its newlines. -/
def lnB (s : ByteArray) : List ByteArray := (cutL 10 s.data.toList).map fun l => ⟨l.toArray⟩
theorem lnB_len (s : ByteArray) : 1 ≤ (lnB s).length := by
  unfold lnB
  rw [List.length_map]
  cases h : cutL 10 s.data.toList with
  | nil => exact absurd h (cutL_ne _ _)
  | cons _ _ => simp
theorem cutL_len (c : UInt8) : ∀ l : List UInt8, (cutL c l).length ≤ l.length + 1
  | [] => by simp [cutL]
  | x :: l => by
    have := cutL_len c l
    rw [cutL]
    split
    · simp; omega
    · split <;> simp_all <;> omega
theorem lnB_le (s : ByteArray) : (lnB s).length ≤ s.size + 1 := by
  unfold lnB
  rw [List.length_map]
  exact cutL_len _ _
/-! ### the loop -/
section
variable {s : ByteArray} {out : List ByteArray} {fr i : Nat}
theorem list_at (h : i < s.size) : ∃ b : UInt8, s.data.toList.drop i = b :: s.data.toList.drop (i + 1) ∧ sb s i = b.toNat := by
  have hl : i < s.data.toList.length := by rw [← size_eq]; exact h
  refine ⟨s.data.toList[i], List.drop_eq_getElem_cons hl, ?_⟩
  unfold sb
  have h2 : i < s.data.size := h
  rw [Array.getElem?_eq_getElem h2, Option.getD_some]
  rfl
end
/-! ### lists of texts -/
def sx (ss : List ByteArray) : List Value := ss.map Value.string
def emB : ByteArray := ⟨#[]⟩
theorem sx_length (ss : List ByteArray) : (sx ss).length = ss.length := by simp [sx]
theorem sx_scal (ss : List ByteArray) : (sx ss).all scal = true := by simp [sx, scal]
theorem sx_snoc (ss : List ByteArray) (x : ByteArray) : sx ss ++ [Value.string x] = sx (ss ++ [x]) := by simp [sx]
theorem sx_get {ss : List ByteArray} {k : Nat} (h : k < ss.length) : (sx ss)[k]? = some (.string (ss.getD k emB)) := by simp [sx, List.getD, h]
/-! ### what is counted -/
def isBad (x : ByteArray) : Bool := scmp .eql x ⟨#[110, 111]⟩ || scmp .eql x ⟨#[119, 104, 97, 116]⟩
def badK (ss : List ByteArray) : Nat → Nat
  | 0 => 0
  | k + 1 => badK ss k + (if isBad (ss.getD k emB) then 1 else 0)
def coL (s : ByteArray) : ByteArray := (lnB s).getD ((lnB s).length - 1) emB
def coOk (s : ByteArray) : Bool := scmp .eql (coL s) emB
def coB (s : ByteArray) : Nat := if coOk s then badK (lnB s) ((lnB s).length - 1) else 0
def coG (s : ByteArray) : Nat := if coOk s then (lnB s).length - 1 - badK (lnB s) ((lnB s).length - 1) else 0
theorem neq_eql (a b : ByteArray) : scmp .neq a b = !scmp .eql a b := rfl
theorem str_args2 {vs : Array Value} {a b : ByteArray} (h : vs.toList.map cn = [.string a, .string b]) : vs = #[.string a, .string b] := by
  obtain ⟨l⟩ := vs
  match l, h with
  | [], h => simp at h
  | [_], h => simp at h
  | [x, y], h =>
    simp only [List.map_cons, List.map_nil, List.cons.injEq, and_true] at h
    rw [cn_string h.1, cn_string h.2]
  | _ :: _ :: _ :: _, h => simp at h
theorem Cl.int0 {w : World} {g : Nat} {m : Int} (h : Cl w (some ⟨g, 0, none⟩) [.int .i64 m]) : w.cell? ⟨g, 0, none⟩ = some (.int .i64 m) := by
  rcases h with h | ⟨p, h1, h2, h3⟩
  · cases h
  · obtain ⟨v, hv, e⟩ := h3 0 _ rfl
    cases h1
    rw [cn_int e] at hv
    exact hv
section
variable {P : Program} {w0 : World} {O : List Ent} {E : Env} {o : Oper}
end
end Go.Proofs.YtmecikeaogjmpaaDoor


namespace Go.Proofs.YtmecikeaogjmpaaDoor
open Go.RowKit Go.Lib
section
variable {P : Program} {w0 : World} {O : List Ent} {E : Env} {o : Oper}
theorem yr_strAdd {t ty : TypeId} {x y : Operand} {a b c : ByteArray} (ho : o.op = .binOp .add t x y ty) (hx : E.opd x = some (.string a)) (hy : E.opd y = some (.string b)) (h : a.size + b.size ≤ 9223372036854775807) (hc : a ++ b = c) : YR P E o (.string c) := yr_of fun ρ w hE => by
  have h1 := cn_string (hE.get (x := x) (by simp [ho, Op.operands]) hx)
  have h2 := cn_string (hE.get (x := y) (by simp [ho, Op.operands]) hy)
  subst hc
  refine ⟨.string (a ++ b), ?_, rfl⟩
  have h3 : ¬ (((a.size + b.size : Nat) : Int) > IntKind.i64.max) := by
    have : IntKind.i64.max = 9223372036854775807 := by decide
    omega
  have hs : (Op.stringOp .add a b).run P w = .ok (.string (a ++ b)) w := by
    unfold Op.stringOp
    simp only
    rw [if_neg h3]; rfl
  simp [execOp, ho, h1, h2, eqGuard, binOp, hs]
end
theorem tab_keep {P : Program} {w w' : World} {name : String} {k : IntKind} {zs : List Int} (h : TabIs P w name k zs) (hb : Below w.heap.size w w') : TabIs P w' name k zs := by
  unfold TabIs World.var? at *
  cases hg : P.globalNamed name with
  | none => rw [hg] at h; cases h
  | some g =>
    rw [hg] at h
    have hlt : g < w.heap.size := by
      rcases Nat.lt_or_ge g w.heap.size with h1 | h1
      · exact h1
      · simp [Array.getElem?_eq_none h1] at h
    have := hb.block g hlt
    simp only [Option.bind_some] at h ⊢
    rw [this]
    exact h
/-! ### decimals -/
def dN (u : Nat) : List Int := (decDigits u).map fun b => (b.toNat : Int)
theorem dN_small {u : Nat} (h : u < 10) : dN u = [((48 + u : Nat) : Int)] := by
  unfold dN
  rw [decDigits, dif_pos h]
  simp only [List.map_cons, List.map_nil, UInt8.toNat_ofNat', List.cons.injEq, and_true]
  omega
theorem dN_big {u : Nat} (h : ¬ u < 10) : dN u = dN (u / 10) ++ [((48 + u % 10 : Nat) : Int)] := by
  unfold dN
  rw [decDigits, dif_neg h]
  simp only [List.map_append, List.map_cons, List.map_nil, UInt8.toNat_ofNat']
  congr 2
  omega
theorem dN_len : ∀ (k u : Nat), u ≤ k → (dN u).length ≤ u + 1
  | k, u, hk => by
    by_cases h : u < 10
    · rw [dN_small h]; simp
    · rw [dN_big h, List.length_append, List.length_singleton]
      cases k with
      | zero => omega
      | succ k => have := dN_len k (u / 10) (by omega); omega
theorem dN_ne (u : Nat) : dN u ≠ [] := by
  by_cases h : u < 10
  · rw [dN_small h]; simp
  · rw [dN_big h]; simp
theorem stb_dN (u : Nat) : stb (dN u) = ⟨(decDigits u).toArray⟩ := by
  unfold stb dN
  rw [List.map_map]
  congr 2
  have : ∀ l : List UInt8, l.map ((fun n : Int => UInt8.ofNat n.toNat) ∘ fun b : UInt8 => (b.toNat : Int)) = l := by
    intro l
    induction l with
    | nil => rfl
    | cons x l ih => rw [List.map_cons, ih]; simp
  exact this _
def DecI (n v : Nat) (t : List Int) : Prop := ((v ≠ 0 ∨ t.length = 0) ∧ dN v ++ t = dN n) ∨ (v = 0 ∧ t.length ≠ 0 ∧ t = dN n)
theorem decI_0 (n : Nat) : DecI n n [] := .inl ⟨.inr rfl, by simp⟩
theorem decI_step {n v : Nat} {t : List Int} (h : DecI n v t) (hc : t.length = 0 ∨ v ≠ 0) : DecI n (v / 10) (((48 + v % 10 : Nat) : Int) :: t) := by
  rcases h with ⟨_, h2⟩ | ⟨h1, h2, _⟩
  · by_cases hv : v < 10
    · refine .inr ⟨by omega, by simp, ?_⟩
      rw [dN_small hv] at h2
      rw [← h2, Nat.mod_eq_of_lt hv]; rfl
    · refine .inl ⟨.inl (by omega), ?_⟩
      rw [dN_big hv, List.append_assoc] at h2
      exact h2
  · omega
theorem decI_end {n : Nat} {t : List Int} (h : DecI n 0 t) (ht : t.length ≠ 0) : t = dN n := by
  rcases h with ⟨h1, _⟩ | ⟨_, _, h3⟩
  · omega
  · exact h3
theorem decI_len {n v : Nat} {t : List Int} (h : DecI n v t) : t.length ≤ n + 1 := by
  have h9 := dN_len n n (Nat.le_refl _)
  rcases h with ⟨_, h2⟩ | ⟨_, _, h2⟩
  · have := congrArg List.length h2
    rw [List.length_append] at this
    omega
  · rw [h2]; exact h9
/-! ### marks -/
def mt (n : Nat) : ByteArray := if n = 0 then ⟨#[109, 48]⟩ else stb (109 :: dN n)
theorem scmp_iff {a b : ByteArray} : scmp .eql a b = true ↔ a = b := by
  unfold scmp
  rw [beq_iff_eq]
  constructor
  · intro h
    have h1 : a.data.toList = b.data.toList := by
      have e : ∀ c : ByteArray, c.toList = c.data.toList := fun c => ByteArray.toList_eq c
      rw [← e, ← e, h]
    exact ByteArray.ext (Array.toList_inj.1 h1)
  · rintro rfl; rfl
/-! ### checks -/
def chkK (c : Nat) (s : ByteArray) : Nat → Nat
  | 0 => c
  | k + 1 => (739 * chkK c s k + sb s k + 67) % 65003
theorem chkK_lt {c : Nat} {s : ByteArray} (h : c < 65003) : ∀ k, chkK c s k < 65003
  | 0 => h
  | k + 1 => Nat.mod_lt _ (by decide)
def chk (c : Nat) (s : ByteArray) : Nat := chkK c s s.size
theorem chk_lt {c : Nat} {s : ByteArray} (h : c < 65003) : chk c s < 65003 := chkK_lt h _
def dec (n : Nat) : ByteArray := stb (dN n)
theorem itoa_dec (n : Nat) : (⟨(itoa (n : Int)).toArray⟩ : ByteArray) = dec n := by
  unfold itoa dec
  rw [if_neg (by omega), Int.toNat_natCast, stb_dN]
/-! ### a line: a number, a space, a text -/
def numT (l : ByteArray) : ByteArray := ⟨(cut l.data.toList [32]).1.toArray⟩
def txt (l : ByteArray) : ByteArray := ⟨(cut l.data.toList [32]).2.1.toArray⟩
def fnd (l : ByteArray) : Bool := (cut l.data.toList [32]).2.2
def good (l : ByteArray) (c : Nat) : Bool := fnd l && scmp .eql (numT l) (dec (chk c (txt l)))
def go : List ByteArray → Nat → List ByteArray → Nat → List ByteArray × Nat
  | [], _, out, n => (out, n)
  | l :: ls, c, out, n => if good l c then go ls (chk c (txt l)) (out ++ [txt l]) (n + l.size + 1) else (out, n)
def recO (s : ByteArray) : List ByteArray := (go ((lnB s).take ((lnB s).length - 1)) 0 [] 0).1
def recN (s : ByteArray) : Nat := (go ((lnB s).take ((lnB s).length - 1)) 0 [] 0).2
theorem extract_all {s : ByteArray} {l : Nat} : (s.extract l s.size).data.toList = s.data.toList.drop l := by
  rw [extract_data, List.take_of_length_le]
  rw [List.length_drop, ← size_eq]; omega
theorem ext_list {a b : ByteArray} (h : a.data.toList = b.data.toList) : a = b := ByteArray.ext (Array.toList_inj.1 h)
theorem go_yes {l : ByteArray} {ls out : List ByteArray} {c n : Nat} (h : good l c = true) : go (l :: ls) c out n = go ls (chk c (txt l)) (out ++ [txt l]) (n + l.size + 1) := if_pos h
theorem go_no {l : ByteArray} {ls out : List ByteArray} {c n : Nat} (h : good l c = false) : go (l :: ls) c out n = (out, n) := if_neg (by rw [h]; decide)
/-! ### the same from a place in the text on -/
def GoB (s : ByteArray) (b c : Nat) (out : List ByteArray) : Prop := go ((lnB (s.extract b s.size)).take ((lnB (s.extract b s.size)).length - 1)) c out b = (recO s, recN s)
theorem extract_0 (s : ByteArray) : s.extract 0 s.size = s := ext_list (by rw [extract_all]; rfl)
theorem goB_0 (s : ByteArray) : GoB s 0 0 [] := by
  unfold GoB recO recN
  rw [extract_0]
theorem goB_end {s : ByteArray} {b c : Nat} {out : List ByteArray} (h : GoB s b c out) (hi : indexByte (s.extract b s.size).data.toList 10 < 0) : out = recO s ∧ b = recN s := by
  have hge := indexByte_ge (s.extract b s.size).data.toList 10
  have e : lnB (s.extract b s.size) = [s.extract b s.size] := by
    unfold lnB
    rw [cutL_miss (index_none (by omega))]; rfl
  unfold GoB at h
  rw [e] at h
  exact Prod.mk.inj h
theorem goB_cut {s : ByteArray} {b i : Nat} (hb : b ≤ s.size) (hi : indexByte (s.extract b s.size).data.toList 10 = i) : b + i + 1 ≤ s.size ∧ lnB (s.extract b s.size) = s.extract b (b + i) :: lnB (s.extract (b + i + 1) s.size) := by
  obtain ⟨p, r, e, hl, hp⟩ := index_parts hi
  rw [extract_all] at e
  have h1 := congrArg List.length e
  rw [List.length_drop, ← size_eq, List.length_append, List.length_cons] at h1
  have h2 : b + i + 1 ≤ s.size := by omega
  refine ⟨h2, ?_⟩
  have hr : s.data.toList.drop (b + i + 1) = r := by
    rw [show b + i + 1 = b + (i + 1) by omega, ← List.drop_drop, e, List.drop_append, List.drop_eq_nil_of_le (by omega), show i + 1 - p.length = 1 by omega]; rfl
  have hq : (s.extract b (b + i)) = ⟨p.toArray⟩ := ext_list (by rw [extract_data, e, show b + i - b = p.length by omega]; simp)
  unfold lnB
  rw [extract_all, extract_all, e, cutL_hit hp, hr, hq]; rfl
theorem goB_bad {s : ByteArray} {b c i : Nat} {out : List ByteArray} (h : GoB s b c out) (hb : b ≤ s.size) (hi : indexByte (s.extract b s.size).data.toList 10 = i) (hg : good (s.extract b (b + i)) c = false) : out = recO s ∧ b = recN s := by
  obtain ⟨h1, h2⟩ := goB_cut hb hi
  unfold GoB at h
  have h3 := lnB_len (s.extract (b + i + 1) s.size)
  rw [h2, List.length_cons, Nat.add_sub_cancel, show (lnB (s.extract (b + i + 1) s.size)).length = ((lnB (s.extract (b + i + 1) s.size)).length - 1) + 1 by omega, List.take_succ_cons, go_no hg] at h
  exact Prod.mk.inj h
theorem goB_step {s : ByteArray} {b c i : Nat} {out : List ByteArray} (h : GoB s b c out) (hb : b ≤ s.size) (hi : indexByte (s.extract b s.size).data.toList 10 = i) (hg : good (s.extract b (b + i)) c = true) : GoB s (b + i + 1) (chk c (txt (s.extract b (b + i)))) (out ++ [txt (s.extract b (b + i))]) := by
  obtain ⟨h1, h2⟩ := goB_cut hb hi
  unfold GoB at h ⊢
  have h3 := lnB_len (s.extract (b + i + 1) s.size)
  rw [h2, List.length_cons, Nat.add_sub_cancel, show (lnB (s.extract (b + i + 1) s.size)).length = ((lnB (s.extract (b + i + 1) s.size)).length - 1) + 1 by omega, List.take_succ_cons, go_yes hg, extract_size (by omega), show b + (b + i - b) + 1 = b + i + 1 by omega] at h
  exact h
theorem u8_nat {a : Nat} (h : a < 256) : IntKind.u8.wrap (a : Int) = (a : Int) := by
  unfold IntKind.wrap
  simp [IntKind.signed, IntKind.bits]
  omega
theorem txt_size (l : ByteArray) : (txt l).size ≤ l.size := by
  unfold txt cut
  rw [size_eq l]
  split
  · show (List.drop _ l.data.toList).toArray.size ≤ _
    simp
  · exact Nat.zero_le _
theorem good_n1 {l : ByteArray} {c : Nat} (h : fnd l = false) : good l c = false := by unfold good; rw [h, Bool.false_and]
theorem good_n2 {l : ByteArray} {c : Nat} (h : scmp .neq (numT l) (dec (chk c (txt l))) = true) : good l c = false := by
  rw [neq_eql] at h
  unfold good
  rw [show scmp .eql (numT l) (dec (chk c (txt l))) = false by simpa using h, Bool.and_false]
theorem good_y {l : ByteArray} {c : Nat} (h1 : fnd l = true) (h : scmp .neq (numT l) (dec (chk c (txt l))) = false) : good l c = true := by
  rw [neq_eql] at h
  unfold good
  rw [show scmp .eql (numT l) (dec (chk c (txt l))) = true by simpa using h, h1]; rfl
theorem go_len : ∀ (ls : List ByteArray) (c : Nat) (out : List ByteArray) (n : Nat), (go ls c out n).1.length ≤ out.length + ls.length
  | [], _, _, _ => Nat.le_refl _
  | l :: ls, c, out, n => by
    cases h : good l c with
    | true =>
      rw [go_yes h]
      have := go_len ls (chk c (txt l)) (out ++ [txt l]) (n + l.size + 1)
      rw [List.length_append, List.length_singleton] at this
      rw [List.length_cons]; omega
    | false => rw [go_no h]; exact Nat.le_add_right _ _
theorem recO_len (s : ByteArray) : (recO s).length ≤ s.size := by
  have h := go_len ((lnB s).take ((lnB s).length - 1)) 0 [] 0
  have h2 := lnB_le s
  unfold recO
  rw [List.length_nil, List.length_take] at h
  omega
def rO (s : ByteArray) : List ByteArray := if s.size ≤ 12000 then recO s else []
def rN (s : ByteArray) : Nat := if s.size ≤ 12000 then recN s else 0
def rB (s : ByteArray) : Bool := decide (s.size ≤ 12000)
theorem rO_len (s : ByteArray) : (rO s).length ≤ 12000 := by
  have := recO_len s
  unfold rO
  split
  · omega
  · simp
theorem r_yes {s : ByteArray} (h : s.size ≤ 12000) : rO s = recO s ∧ rN s = recN s ∧ rB s = true := ⟨if_pos h, if_pos h, decide_eq_true h⟩
theorem r_no {s : ByteArray} (h : ¬ s.size ≤ 12000) : rO s = [] ∧ rN s = 0 ∧ rB s = false := ⟨if_neg h, if_neg h, decide_eq_false h⟩
theorem int_args2 {vs : Array Value} {k k2 : IntKind} {a b : Int} (h : vs.toList.map cn = [.int k a, .int k2 b]) : vs = #[.int k a, .int k2 b] := by
  obtain ⟨l⟩ := vs
  match l, h with
  | [], h => simp at h
  | [_], h => simp at h
  | [x, y], h =>
    simp only [List.map_cons, List.map_nil, List.cons.injEq, and_true] at h
    rw [cn_int h.1, cn_int h.2]
  | _ :: _ :: _ :: _, h => simp at h
theorem str_int2 {vs : Array Value} {k2 : IntKind} {a : ByteArray} {b : Int} (h : vs.toList.map cn = [.string a, .int k2 b]) : vs = #[.string a, .int k2 b] := by
  obtain ⟨l⟩ := vs
  match l, h with
  | [], h => simp at h
  | [_], h => simp at h
  | [x, y], h =>
    simp only [List.map_cons, List.map_nil, List.cons.injEq, and_true] at h
    rw [cn_string h.1, cn_int h.2]
  | _ :: _ :: _ :: _, h => simp at h
theorem drewN_below {B : Nat} (w : World) (n : Nat) : Below B w (w.drewN n) := below_drewN (Below.refl _ _) n
theorem cut_tup (s : ByteArray) : cn (.tuple #[.string ⟨(cut s.data.toList (⟨#[32]⟩ : ByteArray).data.toList).1.toArray⟩, .string ⟨(cut s.data.toList (⟨#[32]⟩ : ByteArray).data.toList).2.1.toArray⟩, .bool (cut s.data.toList (⟨#[32]⟩ : ByteArray).data.toList).2.2]) = .tuple #[.string (numT s), .string (txt s), .bool (fnd s)] := by
  unfold numT txt fnd
  simp [cn, cn1, cn0]
theorem chkK_0 (c : Nat) (s : ByteArray) : chkK c s 0 = c := rfl
theorem chkK_s (c : Nat) (s : ByteArray) (k : Nat) : chkK c s (k + 1) = (739 * chkK c s k + sb s k + 67) % 65003 := rfl
theorem Hp.nilJ {w0 w : World} {O : List Ent} (h : Hp w0 O w) (t : TypeId) : Hp w0 (⟨none, [], 0, t⟩ :: O) w :=
  h.new (Below.refl _ _) (.inl ⟨rfl, rfl⟩)
end Go.Proofs.YtmecikeaogjmpaaDoor


namespace Go.Proofs.YtmecikeaogjmpaaDoor
open Go.RowKit Go.Lib
def hasNL (l : ByteArray) : Bool := decide (0 ≤ indexByte l.data.toList 10)
/-! ### the text -/
def ln1 (c : Nat) (l : ByteArray) : ByteArray := dec c ++ ⟨#[32]⟩ ++ l ++ ⟨#[10]⟩
def jC (ss : List ByteArray) : Nat → Nat
  | 0 => 0
  | k + 1 => chk (jC ss k) (ss.getD k emB)
def jT (ss : List ByteArray) : Nat → ByteArray
  | 0 => ⟨#[]⟩
  | k + 1 => jT ss k ++ ln1 (jC ss (k + 1)) (ss.getD k emB)
def tot (ss : List ByteArray) : Nat → Nat
  | 0 => 0
  | k + 1 => tot ss k + ((ss.getD k emB).size + 3)
theorem jC_s (ss : List ByteArray) (k : Nat) : jC ss (k + 1) = chk (jC ss k) (ss.getD k emB) := rfl
theorem jT_s (ss : List ByteArray) (k : Nat) : jT ss (k + 1) = jT ss k ++ ln1 (jC ss (k + 1)) (ss.getD k emB) := rfl
theorem tot_s (ss : List ByteArray) (k : Nat) : tot ss (k + 1) = tot ss k + ((ss.getD k emB).size + 3) := rfl
theorem jC_lt (ss : List ByteArray) : ∀ k, jC ss k < 65003
  | 0 => Nat.zero_lt_succ _
  | k + 1 => chk_lt (jC_lt ss k)
theorem dec_size (n : Nat) : 1 ≤ (dec n).size ∧ (dec n).size ≤ n + 1 := by
  unfold dec
  rw [stb_size]
  refine ⟨?_, dN_len n n (Nat.le_refl _)⟩
  have := dN_ne n
  cases h : dN n with
  | nil => exact absurd h this
  | cons _ _ => simp
theorem app_size (a b : ByteArray) : (a ++ b).size = a.size + b.size := by simp
theorem ln1_size (c : Nat) (l : ByteArray) : (ln1 c l).size = (dec c).size + 1 + l.size + 1 := by
  unfold ln1
  rw [app_size, app_size, app_size]; rfl
theorem jT_lo (ss : List ByteArray) (k : Nat) : (jT ss k).size + ((ss.getD k emB).size + 3) ≤ (jT ss (k + 1)).size := by
  rw [jT_s, app_size, ln1_size]
  have := (dec_size (jC ss (k + 1))).1
  omega
theorem tot_le (ss : List ByteArray) : ∀ k, tot ss k ≤ (jT ss k).size
  | 0 => Nat.zero_le _
  | k + 1 => by have h1 := jT_lo ss k; have h2 := tot_le ss k; rw [tot_s]; omega
theorem jT_mono (ss : List ByteArray) : ∀ (n k : Nat), k ≤ n → (jT ss k).size ≤ (jT ss n).size
  | 0, k, h => by rw [show k = 0 by omega]; exact Nat.le_refl _
  | n + 1, k, h => by
    by_cases e : k = n + 1
    · rw [e]; exact Nat.le_refl _
    · have h1 := jT_mono ss n k (by omega)
      have h2 := jT_lo ss n
      omega
def noNL (ss : List ByteArray) : Nat → Bool
  | 0 => true
  | k + 1 => noNL ss k && !hasNL (ss.getD k emB)
def jOk (ss : List ByteArray) : Bool := noNL ss ss.length && decide ((jT ss ss.length).size ≤ 12000)
def jR (ss : List ByteArray) : ByteArray := if jOk ss then jT ss ss.length else ⟨#[]⟩
theorem noNL_0 (ss : List ByteArray) : noNL ss 0 = true := rfl
theorem noNL_y {ss : List ByteArray} {k : Nat} (h : noNL ss k = true) (h2 : hasNL (ss.getD k emB) = false) : noNL ss (k + 1) = true := by rw [noNL, h, h2]; rfl
theorem noNL_n {ss : List ByteArray} {k : Nat} (h : hasNL (ss.getD k emB) = true) : ∀ n, k < n → noNL ss n = false
  | 0, hk => absurd hk (Nat.not_lt_zero _)
  | n + 1, hk => by
    rw [noNL]
    by_cases e : k = n
    · rw [← e, h]; simp
    · rw [noNL_n h n (by omega)]; rfl
theorem j_bad1 {ss : List ByteArray} {k : Nat} (hk : k < ss.length) (h : hasNL (ss.getD k emB) = true) : jOk ss = false ∧ jR ss = ⟨#[]⟩ := by
  have h1 : jOk ss = false := by unfold jOk; rw [noNL_n h _ hk]; rfl
  exact ⟨h1, by unfold jR; rw [h1]; rfl⟩
theorem j_bad2 {ss : List ByteArray} {k : Nat} (hk : k ≤ ss.length) (h : 12000 < (jT ss k).size) : jOk ss = false ∧ jR ss = ⟨#[]⟩ := by
  have h2 := jT_mono ss ss.length k hk
  have h1 : jOk ss = false := by unfold jOk; rw [decide_eq_false (by omega), Bool.and_false]
  exact ⟨h1, by unfold jR; rw [h1]; rfl⟩
theorem j_good {ss : List ByteArray} (h : noNL ss ss.length = true) (h2 : (jT ss ss.length).size ≤ 12000) : jOk ss = true ∧ jR ss = jT ss ss.length := by
  have h1 : jOk ss = true := by unfold jOk; rw [h, decide_eq_true h2]; rfl
  exact ⟨h1, by unfold jR; rw [h1]; rfl⟩
/-! ### the size of a list of texts -/
def sumS (ss : List ByteArray) : Nat → Nat
  | 0 => 0
  | k + 1 => sumS ss k + (ss.getD k emB).size
def szS (n : Nat) (ss : List ByteArray) : Int := if n < ss.length + sumS ss ss.length then -1 else (n : Int) - ss.length - sumS ss ss.length
/-! ### copies -/
theorem tot_mono (ss : List ByteArray) : ∀ (n k : Nat), k ≤ n → tot ss k ≤ tot ss n
  | 0, k, h => by rw [show k = 0 by omega]; exact Nat.le_refl _
  | n + 1, k, h => by
    by_cases e : k = n + 1
    · rw [e]; exact Nat.le_refl _
    · have h1 := tot_mono ss n k (by omega)
      rw [tot_s]
      omega
theorem tot_at {ss : List ByteArray} {k n : Nat} (h : k < n) : (ss.getD k emB).size ≤ tot ss n := by
  have h1 := tot_mono ss n (k + 1) h
  rw [tot_s] at h1
  omega
theorem cat_bd {a b : ByteArray} (h1 : a.size ≤ 1000000000) (h2 : b.size ≤ 1000000000) : a.size + b.size ≤ 9223372036854775807 := by omega
end Go.Proofs.YtmecikeaogjmpaaDoor


namespace Go.Proofs.YtmecikeaogjmpaaDoor
open Go.RowKit Go.Lib
/-! ### texts without a newline -/
def tx (s : ByteArray) (m : Nat) : Prop := (10 : UInt8) ∉ s.data.toList ∧ s.size ≤ m
theorem nl_iff {s : ByteArray} : hasNL s = false ↔ (10 : UInt8) ∉ s.data.toList := by
  have hge := indexByte_ge s.data.toList 10
  unfold hasNL
  rw [decide_eq_false_iff_not]
  constructor
  · intro h; exact index_none (by omega)
  · intro h h1
    obtain ⟨i, hi⟩ : ∃ i : Nat, indexByte s.data.toList 10 = i := ⟨(indexByte s.data.toList 10).toNat, by omega⟩
    obtain ⟨p, r, e, _, _⟩ := index_parts hi
    exact h (by rw [e]; simp)
theorem app_list (a b : ByteArray) : (a ++ b).data.toList = a.data.toList ++ b.data.toList := by
  rw [ByteArray.data_append, Array.toList_append]
theorem tx_app {a b : ByteArray} {m k : Nat} (ha : tx a m) (hb : tx b k) : tx (a ++ b) (m + k) := by
  refine ⟨?_, by rw [app_size]; exact Nat.add_le_add ha.2 hb.2⟩
  rw [app_list, List.mem_append]
  rintro (h | h)
  · exact ha.1 h
  · exact hb.1 h
theorem tx_mono {s : ByteArray} {m k : Nat} (h : tx s m) (hk : m ≤ k) : tx s k := ⟨h.1, Nat.le_trans h.2 hk⟩
theorem tx_stb {t : List Int} {m : Nat} (h : ∀ b ∈ t, 0 ≤ b ∧ b < 256 ∧ b ≠ 10) (hm : t.length ≤ m) : tx (stb t) m := by
  refine ⟨?_, by rw [stb_size]; exact hm⟩
  intro h1
  simp only [stb, List.mem_map] at h1
  obtain ⟨b, hb, e⟩ := h1
  obtain ⟨h2, h3, h4⟩ := h b hb
  have e2 := congrArg UInt8.toNat e
  rw [UInt8.toNat_ofNat'] at e2
  have e3 : (10 : UInt8).toNat = 10 := rfl
  omega
theorem dN_dig : ∀ (k n : Nat), n ≤ k → ∀ b ∈ dN n, 48 ≤ b ∧ b < 58
  | k, n, hk, b, hb => by
    by_cases h : n < 10
    · rw [dN_small h] at hb
      simp only [List.mem_cons, List.mem_nil_iff, or_false] at hb
      omega
    · rw [dN_big h] at hb
      rcases List.mem_append.1 hb with hb | hb
      · cases k with
        | zero => omega
        | succ k => exact dN_dig k (n / 10) (by omega) b hb
      · simp only [List.mem_cons, List.mem_nil_iff, or_false] at hb
        omega
theorem dN_short : ∀ (k n : Nat), n < 10 ^ (k + 1) → (dN n).length ≤ k + 1
  | 0, n, h => by rw [dN_small (by omega)]; exact Nat.le_refl _
  | k + 1, n, h => by
    by_cases h1 : n < 10
    · rw [dN_small h1]; simp
    · rw [dN_big h1, List.length_append, List.length_singleton]
      have := dN_short k (n / 10) (by rw [Nat.div_lt_iff_lt_mul (by decide), ← Nat.pow_succ]; exact h)
      omega
theorem tx_dec {n : Nat} (h : n < 100000) : tx (dec n) 5 :=
  tx_stb (fun b hb => by have := dN_dig n n (Nat.le_refl _) b hb; omega) (dN_short 4 n (by omega))
theorem dec_sp (n : Nat) : (32 : UInt8) ∉ (dec n).data.toList := by
  intro h1
  simp only [dec, stb, List.mem_map] at h1
  obtain ⟨b, hb, e⟩ := h1
  have h2 := dN_dig n n (Nat.le_refl _) b hb
  have e2 := congrArg UInt8.toNat e
  rw [UInt8.toNat_ofNat'] at e2
  have e3 : (32 : UInt8).toNat = 32 := rfl
  omega
theorem index_hit {c : UInt8} : ∀ {p r : List UInt8}, c ∉ p → indexByte (p ++ c :: r) c = p.length
  | [], r, _ => by simp [indexByte]
  | x :: p, r, h => by
    simp only [List.mem_cons, not_or] at h
    have ih := index_hit (p := p) (r := r) h.2
    have hx : (x == c) = false := by simpa using fun e => h.1 e.symm
    rw [List.cons_append, indexByte, hx, ih]
    have h2 : (((p.length : Int)) == -1) = false := by
      rw [beq_eq_false_iff_ne]; omega
    rw [h2]
    simp
/-! ### a line -/
def lb (c : Nat) (l : ByteArray) : ByteArray := dec c ++ ⟨#[32]⟩ ++ l
theorem ln1_lb (c : Nat) (l : ByteArray) : ln1 c l = lb c l ++ ⟨#[10]⟩ := rfl
theorem lb_list (c : Nat) (l : ByteArray) : (lb c l).data.toList = (dec c).data.toList ++ (32 : UInt8) :: l.data.toList := by
  unfold lb
  rw [app_list, app_list, List.append_assoc]; rfl
theorem lb_parts (c : Nat) (l : ByteArray) : numT (lb c l) = dec c ∧ txt (lb c l) = l ∧ fnd (lb c l) = true := by
  have hi : index (lb c l).data.toList [32] = (dec c).data.toList.length := by rw [index_one, lb_list]; exact index_hit (dec_sp c)
  unfold numT txt fnd cut
  rw [hi, if_pos (by omega)]
  refine ⟨ext_list ?_, ext_list ?_, rfl⟩
  · simp only [lb_list]
    rw [Int.toNat_natCast, List.take_left']
    rfl
  · simp only [lb_list]
    rw [Int.toNat_natCast]
    have : (dec c).data.toList.length + [(32 : UInt8)].length = (dec c).data.toList.length + 1 := rfl
    rw [this, ← List.drop_drop, List.drop_left']
    · rfl
    · rfl
theorem lb_good (c : Nat) (l : ByteArray) : good (lb (chk c l) l) c = true := by
  obtain ⟨h1, h2, h3⟩ := lb_parts (chk c l) l
  unfold good
  rw [h1, h2, h3, Bool.true_and]
  exact scmp_iff.2 rfl
theorem lb_nl {c : Nat} {l : ByteArray} (h : (10 : UInt8) ∉ l.data.toList) : (10 : UInt8) ∉ (lb c l).data.toList := by
  rw [lb_list]
  intro h1
  rcases List.mem_append.1 h1 with h1 | h1
  · simp only [dec, stb, List.mem_map] at h1
    obtain ⟨b, hb, e⟩ := h1
    have h2 := dN_dig c c (Nat.le_refl _) b hb
    have e2 := congrArg UInt8.toNat e
    rw [UInt8.toNat_ofNat'] at e2
    have e3 : (10 : UInt8).toNat = 10 := rfl
    omega
  · rcases List.mem_cons.1 h1 with h1 | h1
    · exact absurd h1 (by decide)
    · exact h h1
theorem good_join {l : ByteArray} {c : Nat} (h : good l c = true) : l = lb (chk c (txt l)) (txt l) := by
  unfold good at h
  rw [Bool.and_eq_true] at h
  have e1 : numT l = dec (chk c (txt l)) := scmp_iff.1 h.2
  unfold lb
  rw [← e1]
  have hf := h.1
  unfold fnd cut at hf
  unfold numT txt cut
  rw [index_one] at hf ⊢
  by_cases hp : 0 ≤ indexByte l.data.toList 32
  · rw [if_pos hp]
    obtain ⟨i, hi⟩ : ∃ i : Nat, indexByte l.data.toList 32 = i := ⟨(indexByte l.data.toList 32).toNat, by omega⟩
    obtain ⟨p, r, e, hl, _⟩ := index_parts hi
    refine ext_list ?_
    rw [app_list, app_list, hi, Int.toNat_natCast]
    simp only
    rw [e, ← hl]
    have h3 : p.length + [(32 : UInt8)].length = p.length + 1 := rfl
    rw [h3, List.take_left' rfl, ← List.drop_drop, List.drop_left' rfl, List.append_assoc]; rfl
  · rw [if_neg hp] at hf; cases hf
theorem txt_nl {l : ByteArray} (h : (10 : UInt8) ∉ l.data.toList) : (10 : UInt8) ∉ (txt l).data.toList := by
  unfold txt cut
  split
  · intro h1; exact h (List.mem_of_mem_drop h1)
  · simp
/-! ### the lines of a text -/
def LL (s : ByteArray) : List ByteArray := (lnB s).take ((lnB s).length - 1)
theorem LL_cons {p r : ByteArray} (h : (10 : UInt8) ∉ p.data.toList) : LL (p ++ ⟨#[10]⟩ ++ r) = p :: LL r := by
  have e : lnB (p ++ ⟨#[10]⟩ ++ r) = p :: lnB r := by
    unfold lnB
    rw [app_list, app_list, List.append_assoc]
    show List.map _ (cutL 10 (p.data.toList ++ (10 : UInt8) :: r.data.toList)) = _
    rw [cutL_hit h]; rfl
  have h1 := lnB_len r
  unfold LL
  rw [e, List.length_cons, Nat.add_sub_cancel, show (lnB r).length = ((lnB r).length - 1) + 1 by omega, List.take_succ_cons, Nat.add_sub_cancel]
theorem LL_one {r : ByteArray} (h : (10 : UInt8) ∉ r.data.toList) : LL r = [] := by
  unfold LL lnB
  rw [cutL_miss h]; rfl
theorem noNL_at {ss : List ByteArray} : ∀ {n k : Nat}, noNL ss n = true → k < n → (10 : UInt8) ∉ (ss.getD k emB).data.toList
  | 0, k, _, h => absurd h (Nat.not_lt_zero _)
  | n + 1, k, h, hk => by
    rw [noNL, Bool.and_eq_true, Bool.not_eq_true'] at h
    by_cases e : k = n
    · rw [e]; exact nl_iff.1 h.2
    · exact noNL_at h.1 (by omega)
theorem noNL_of {ss : List ByteArray} : ∀ {n : Nat}, (∀ k, k < n → (10 : UInt8) ∉ (ss.getD k emB).data.toList) → noNL ss n = true
  | 0, _ => rfl
  | n + 1, h => by rw [noNL, noNL_of (fun k hk => h k (by omega)), nl_iff.2 (h n (by omega))]; rfl
theorem noNL_le {ss : List ByteArray} {n k : Nat} (h : noNL ss n = true) (hk : k ≤ n) : noNL ss k = true := noNL_of fun j hj => noNL_at h (by omega)
theorem rec_app {ss : List ByteArray} : ∀ {w : Nat}, noNL ss w = true → w ≤ ss.length → ∀ R : ByteArray, go (LL (jT ss w ++ R)) 0 [] 0 = go (LL R) (jC ss w) (ss.take w) (jT ss w).size
  | 0, _, _, R => by
    have e : jT ss 0 ++ R = R := ext_list (by rw [app_list]; rfl)
    rw [e]; rfl
  | w + 1, h, hw, R => by
    have e : jT ss (w + 1) ++ R = jT ss w ++ (lb (jC ss (w + 1)) (ss.getD w emB) ++ ⟨#[10]⟩ ++ R) := by
      rw [jT_s, ln1_lb]
      refine ext_list ?_
      simp only [app_list, List.append_assoc]
    have hn : (10 : UInt8) ∉ (lb (jC ss (w + 1)) (ss.getD w emB)).data.toList := lb_nl (noNL_at h (Nat.lt_succ_self w))
    rw [e, rec_app (noNL_le h (Nat.le_succ w)) (by omega), LL_cons hn, jC_s, go_yes (lb_good _ _), (lb_parts _ _).2.1]
    congr 1
    · rw [List.take_add_one, List.getElem?_eq_getElem (by omega)]
      have : ss.getD w emB = ss[w] := by simp [List.getD, (show w < ss.length by omega)]
      rw [this]; rfl
    · rw [jT_s, app_size, ln1_lb, app_size, jC_s]
      have : (⟨#[10]⟩ : ByteArray).size = 1 := rfl
      omega
theorem go_mono : ∀ (ls : List ByteArray) (c : Nat) (out : List ByteArray) (n : Nat), n ≤ (go ls c out n).2
  | [], _, _, _ => Nat.le_refl _
  | l :: ls, c, out, n => by
    cases h : good l c with
    | true =>
      rw [go_yes h]
      have := go_mono ls (chk c (txt l)) (out ++ [txt l]) (n + l.size + 1)
      omega
    | false => rw [go_no h]; exact Nat.le_refl _
/-! ### what is recovered is a journal's beginning -/
theorem getE_app {ss : List ByteArray} {x : ByteArray} {k : Nat} (h : k < ss.length) : (ss ++ [x]).getD k emB = ss.getD k emB := by
  simp [List.getD, List.getElem?_append_left h]
theorem jC_app {ss : List ByteArray} {x : ByteArray} : ∀ {k : Nat}, k ≤ ss.length → jC (ss ++ [x]) k = jC ss k
  | 0, _ => rfl
  | k + 1, h => by rw [jC_s, jC_s, jC_app (by omega), getE_app (by omega)]
theorem jT_app {ss : List ByteArray} {x : ByteArray} : ∀ {k : Nat}, k ≤ ss.length → jT (ss ++ [x]) k = jT ss k
  | 0, _ => rfl
  | k + 1, h => by rw [jT_s, jT_s, jT_app (by omega), jC_app h, getE_app (by omega)]
theorem getE_end {ss : List ByteArray} {x : ByteArray} : (ss ++ [x]).getD ss.length emB = x := by simp [List.getD]
theorem app_end {ss : List ByteArray} {x : ByteArray} : (ss ++ [x]).length = ss.length + 1 ∧ jC (ss ++ [x]) (ss.length + 1) = chk (jC ss ss.length) x ∧ jT (ss ++ [x]) (ss.length + 1) = jT ss ss.length ++ ln1 (chk (jC ss ss.length) x) x := by
  have h1 : jC (ss ++ [x]) (ss.length + 1) = chk (jC ss ss.length) x := by rw [jC_s, jC_app (Nat.le_refl _), getE_end]
  refine ⟨by simp, h1, ?_⟩
  rw [jT_s, jT_app (Nat.le_refl _), h1, getE_end]
theorem cut_end {s : ByteArray} {b i : Nat} {p r : List UInt8} (e : s.data.toList.drop b = p ++ (10 : UInt8) :: r) (hl : p.length = i) (hx : (s.extract b (b + i)).data.toList = p) : s.extract 0 b ++ (s.extract b (b + i) ++ ⟨#[10]⟩) = s.extract 0 (b + i + 1) := by
  refine ext_list ?_
  rw [app_list, app_list, hx, extract_data, extract_data, List.drop_zero, Nat.sub_zero, Nat.sub_zero]
  rw [show b + i + 1 = b + (i + 1) by omega, List.take_add, e]
  congr 1
  rw [← hl, List.take_append, List.take_of_length_le (by omega), show p.length + 1 - p.length = 1 by omega]; rfl
def RecP (s : ByteArray) (o : List ByteArray) (n : Nat) : Prop := jT o o.length = s.extract 0 n ∧ n ≤ s.size ∧ noNL o o.length = true
theorem rec_go {s : ByteArray} : ∀ (d b c : Nat) (out : List ByteArray), s.size - b ≤ d → GoB s b c out → b ≤ s.size → jT out out.length = s.extract 0 b → jC out out.length = c → noNL out out.length = true → RecP s (recO s) (recN s)
  | d, b, c, out, hd, hG, hb, h1, h2, h3 => by
    by_cases hi : indexByte (s.extract b s.size).data.toList 10 < 0
    · obtain ⟨e1, e2⟩ := goB_end hG hi
      rw [← e1, ← e2]
      exact ⟨h1, hb, h3⟩
    · obtain ⟨i, hi'⟩ : ∃ i : Nat, indexByte (s.extract b s.size).data.toList 10 = i := ⟨(indexByte (s.extract b s.size).data.toList 10).toNat, by omega⟩
      obtain ⟨g1, g2⟩ := goB_cut hb hi'
      cases hg : good (s.extract b (b + i)) c with
      | false =>
        obtain ⟨e1, e2⟩ := goB_bad hG hb hi' hg
        rw [← e1, ← e2]
        exact ⟨h1, hb, h3⟩
      | true =>
        have hS := goB_step hG hb hi' hg
        have hj := good_join hg
        obtain ⟨p, r, e, hl, hp⟩ := index_parts hi'
        rw [extract_all] at e
        have hx : (s.extract b (b + i)).data.toList = p := by rw [extract_data, e, show b + i - b = p.length by omega]; simp
        generalize ht : txt (s.extract b (b + i)) = t at *
        have hnt : (10 : UInt8) ∉ t.data.toList := by rw [← ht]; exact txt_nl (by rw [hx]; exact hp)
        cases d with
        | zero => omega
        | succ d =>
          obtain ⟨a1, a2, a3⟩ := app_end (ss := out) (x := t)
          have hT : jT (out ++ [t]) (out ++ [t]).length = s.extract 0 (b + i + 1) := by
            rw [a1, a3, h1, h2, ln1_lb, ← hj]
            exact cut_end e hl hx
          have hC : jC (out ++ [t]) (out ++ [t]).length = chk c t := by rw [a1, a2, h2]
          have hN : noNL (out ++ [t]) (out ++ [t]).length = true := by
            rw [a1, noNL, getE_end, nl_iff.2 hnt]
            have : noNL (out ++ [t]) out.length = true := noNL_of fun k hk => by rw [getE_app hk]; exact noNL_at h3 hk
            rw [this]; rfl
          exact rec_go d (b + i + 1) (chk c t) (out ++ [t]) (by omega) hS g1 hT hC hN
theorem rec_ok (s : ByteArray) : RecP s (recO s) (recN s) := rec_go s.size 0 0 [] (Nat.sub_le _ _) (goB_0 s) (Nat.zero_le _) (ext_list (by rw [extract_data]; rfl)) rfl rfl
/-! ### a place in a journal -/
def cN (s : ByteArray) : Nat → Nat
  | 0 => 0
  | k + 1 => if sb s k = 10 then cN s k + 1 else cN s k
theorem cN_y {s : ByteArray} {k : Nat} (h : sb s k = 10) : cN s (k + 1) = cN s k + 1 := by rw [cN, if_pos h]
theorem cN_n {s : ByteArray} {k : Nat} (h : sb s k ≠ 10) : cN s (k + 1) = cN s k := by rw [cN, if_neg h]
theorem cN_le (s : ByteArray) : ∀ k, cN s k ≤ k
  | 0 => Nat.le_refl _
  | k + 1 => by have := cN_le s k; rw [cN]; split <;> omega
theorem cN_count {s : ByteArray} : ∀ {k : Nat}, k ≤ s.size → cN s k = (s.data.toList.take k).count 10
  | 0, _ => by simp [cN]
  | k + 1, h => by
    obtain ⟨b, e1, e2⟩ := list_at (show k < s.size by omega)
    have e3 : s.data.toList.take (k + 1) = s.data.toList.take k ++ [b] := by
      rw [List.take_add_one]
      congr 1
      have : s.data.toList[k]? = some b := by
        have := congrArg List.head? e1
        rw [List.head?_drop] at this
        simpa using this
      rw [this]; rfl
    rw [e3, List.count_append, ← cN_count (by omega)]
    by_cases hb : sb s k = 10
    · have : b = 10 := UInt8.toNat_inj.1 (by rw [← e2, hb]; rfl)
      rw [cN_y hb, this]; rfl
    · have : b ≠ 10 := fun e => hb (by rw [e2, e]; rfl)
      rw [cN_n hb, List.count_eq_zero_of_not_mem (by simpa using fun e => this e.symm)]; rfl
theorem jT_count {ss : List ByteArray} : ∀ {w : Nat}, noNL ss w = true → (jT ss w).data.toList.count 10 = w
  | 0, _ => rfl
  | w + 1, h => by
    have hn : (10 : UInt8) ∉ (lb (jC ss (w + 1)) (ss.getD w emB)).data.toList := lb_nl (noNL_at h (Nat.lt_succ_self w))
    rw [jT_s, app_list, List.count_append, jT_count (noNL_le h (Nat.le_succ w)), ln1_lb, app_list, List.count_append, List.count_eq_zero_of_not_mem hn]; rfl
theorem jT_pre {ss : List ByteArray} : ∀ {n w : Nat}, w ≤ n → ∃ C : ByteArray, jT ss n = jT ss w ++ C
  | 0, w, h => ⟨⟨#[]⟩, by rw [show w = 0 by omega]; exact ext_list (by rw [app_list]; simp)⟩
  | n + 1, w, h => by
    by_cases e : w = n + 1
    · exact ⟨⟨#[]⟩, by rw [e]; exact ext_list (by rw [app_list]; simp)⟩
    · obtain ⟨C, hC⟩ := jT_pre (ss := ss) (n := n) (w := w) (by omega)
      exact ⟨C ++ ln1 (jC ss (n + 1)) (ss.getD n emB), by rw [jT_s, hC]; exact ext_list (by simp only [app_list, List.append_assoc])⟩
theorem jT_place {ss : List ByteArray} : ∀ {n at_ : Nat}, at_ < (jT ss n).size → ∃ w, w < n ∧ (jT ss w).size ≤ at_ ∧ at_ < (jT ss (w + 1)).size
  | 0, at_, h => absurd h (Nat.not_lt_zero _)
  | n + 1, at_, h => by
    by_cases h1 : at_ < (jT ss n).size
    · obtain ⟨w, a, b, c⟩ := jT_place h1
      exact ⟨w, by omega, b, c⟩
    · exact ⟨n, Nat.lt_succ_self n, by omega, h⟩
theorem jT_cut {ss : List ByteArray} {n at_ : Nat} (hn : noNL ss n = true) (h : at_ < (jT ss n).size) : ∃ w R, w < n ∧ (jT ss w).size ≤ at_ ∧ (jT ss n).extract 0 at_ = jT ss w ++ R ∧ (10 : UInt8) ∉ R.data.toList ∧ cN (jT ss n) at_ = w := by
  obtain ⟨w, hw, h1, h2⟩ := jT_place h
  have hln : (10 : UInt8) ∉ (lb (jC ss (w + 1)) (ss.getD w emB)).data.toList := lb_nl (noNL_at hn hw)
  have hc := jT_count (noNL_le hn (Nat.le_of_lt hw))
  have h3 : (jT ss (w + 1)).size = (jT ss w).size + ((lb (jC ss (w + 1)) (ss.getD w emB)).size + 1) := by rw [jT_s, app_size, ln1_lb, app_size]; rfl
  obtain ⟨C, hC⟩ := jT_pre (ss := ss) (n := n) (w := w + 1) hw
  have e0 : (jT ss n).data.toList = (jT ss w).data.toList ++ ((lb (jC ss (w + 1)) (ss.getD w emB)).data.toList ++ ((10 : UInt8) :: C.data.toList)) := by
    rw [hC, jT_s, ln1_lb]
    simp only [app_list, List.append_assoc]; rfl
  generalize (lb (jC ss (w + 1)) (ss.getD w emB)) = B at *
  have hj : at_ - (jT ss w).size ≤ B.size := by omega
  have e1 : (jT ss n).data.toList.take at_ = (jT ss w).data.toList ++ B.data.toList.take (at_ - (jT ss w).size) := by
    rw [e0, List.take_append, List.take_of_length_le (by rw [← size_eq]; exact h1), ← size_eq, List.take_append]
    have : at_ - (jT ss w).size - B.data.toList.length = 0 := by rw [← size_eq]; omega
    rw [this, List.take_zero, List.append_nil]
  have hR : (10 : UInt8) ∉ B.data.toList.take (at_ - (jT ss w).size) := fun hm => hln (List.mem_of_mem_take hm)
  refine ⟨w, B.extract 0 (at_ - (jT ss w).size), hw, h1, ext_list ?_, ?_, ?_⟩
  · rw [extract_data, app_list, extract_data, List.drop_zero, List.drop_zero, Nat.sub_zero, Nat.sub_zero, e1]
  · rw [extract_data, List.drop_zero, Nat.sub_zero]; exact hR
  · rw [cN_count (Nat.le_of_lt h), e1, List.count_append, hc, List.count_eq_zero_of_not_mem hR]; rfl
/-! ### what the law asks -/
structure JnF (ss : List ByteArray) : Prop where
  no : noNL ss ss.length = true
  le : (jT ss ss.length).size ≤ 12000
theorem JnF.ok {ss : List ByteArray} (h : JnF ss) : jOk ss = true ∧ jR ss = jT ss ss.length := j_good h.no h.le
theorem jR_ok {s : ByteArray} (hs : s.size ≤ 12000) : jOk (recO s) = true ∧ jR (recO s) = s.extract 0 (recN s) ∧ recN s ≤ s.size := by
  obtain ⟨h1, h2, h3⟩ := rec_ok s
  have hz : (jT (recO s) (recO s).length).size ≤ 12000 := by rw [h1, extract_size h2]; omega
  obtain ⟨g1, g2⟩ := j_good h3 hz
  exact ⟨g1, g2.trans h1, h2⟩
theorem jn_cut {ss : List ByteArray} (h : JnF ss) {at_ : Nat} (ha : at_ < (jR ss).size) : rB ((jR ss).extract 0 at_) = true ∧ rO ((jR ss).extract 0 at_) = ss.take (cN (jR ss) at_) ∧ rN ((jR ss).extract 0 at_) ≤ at_ ∧ cN (jR ss) at_ ≤ ss.length ∧
    jOk (rO ((jR ss).extract 0 at_)) = true ∧ jR (rO ((jR ss).extract 0 at_)) = (jR ss).extract 0 (rN ((jR ss).extract 0 at_)) ∧ rN ((jR ss).extract 0 at_) = (jT ss (cN (jR ss) at_)).size ∧ ∃ R, (jR ss).extract 0 at_ = jT ss (cN (jR ss) at_) ++ R := by
  obtain ⟨o1, o2⟩ := h.ok
  have hle := h.le
  rw [o2] at ha ⊢
  have hs : ((jT ss ss.length).extract 0 at_).size ≤ 12000 := by rw [extract_size (Nat.le_of_lt ha)]; omega
  obtain ⟨r1, r2, r3⟩ := r_yes hs
  obtain ⟨w, R, hw, h1, h2, h3, h4⟩ := jT_cut h.no ha
  have hg := rec_app (noNL_le h.no (Nat.le_of_lt hw)) (Nat.le_of_lt hw) R
  rw [LL_one h3, ← h2] at hg
  have e1 : recO ((jT ss ss.length).extract 0 at_) = ss.take w := congrArg Prod.fst hg
  have e2 : recN ((jT ss ss.length).extract 0 at_) = (jT ss w).size := congrArg Prod.snd hg
  obtain ⟨k1, k2, k3⟩ := jR_ok hs
  rw [h4, r1, r2, r3]
  refine ⟨rfl, e1, by omega, Nat.le_of_lt hw, k1, ?_, e2, R, h2⟩
  rw [k2]
  refine ext_list ?_
  simp only [extract_data, List.drop_zero, Nat.sub_zero]
  rw [List.take_take, Nat.min_eq_left (by omega)]
def bent (T : ByteArray) (at_ : Nat) (b : Int) : ByteArray := T.extract 0 at_ ++ stb [b] ++ T.extract (at_ + 1) T.size
theorem bent_size {T : ByteArray} {at_ : Nat} {b : Int} (h : at_ < T.size) : (bent T at_ b).size = T.size := by
  unfold bent
  rw [app_size, app_size, extract_size (Nat.le_of_lt h), extract_size (Nat.le_refl _), stb_size]
  simp only [List.length_cons, List.length_nil]
  omega
theorem jn_bent {ss : List ByteArray} (h : JnF ss) {at_ : Nat} (ha : at_ < (jR ss).size) (b : Int) : rB (bent (jR ss) at_ b) = true ∧ jOk (rO (bent (jR ss) at_ b)) = true ∧ rN ((jR ss).extract 0 at_) ≤ rN (bent (jR ss) at_ b) ∧ rN (bent (jR ss) at_ b) ≤ (bent (jR ss) at_ b).size ∧
    jR (rO (bent (jR ss) at_ b)) = (bent (jR ss) at_ b).extract 0 (rN (bent (jR ss) at_ b)) := by
  obtain ⟨_, _, _, hw, _, _, h7, R, h8⟩ := jn_cut h ha
  have hsz := bent_size (b := b) ha
  have hle : (jR ss).size ≤ 12000 := by rw [h.ok.2]; exact h.le
  have hs : (bent (jR ss) at_ b).size ≤ 12000 := by omega
  obtain ⟨r1, r2, r3⟩ := r_yes hs
  obtain ⟨k1, k2, k3⟩ := jR_ok hs
  rw [r1, r2, r3, h7]
  refine ⟨rfl, k1, ?_, k3, k2⟩
  have e : bent (jR ss) at_ b = jT ss (cN (jR ss) at_) ++ (R ++ stb [b] ++ (jR ss).extract (at_ + 1) (jR ss).size) := by
    unfold bent
    rw [h8]
    exact ext_list (by simp only [app_list, List.append_assoc])
  have hg := rec_app (noNL_le h.no hw) hw (R ++ stb [b] ++ (jR ss).extract (at_ + 1) (jR ss).size)
  rw [← e] at hg
  have e2 : recN (bent (jR ss) at_ b) = (go (LL (R ++ stb [b] ++ (jR ss).extract (at_ + 1) (jR ss).size)) (jC ss (cN (jR ss) at_)) (ss.take (cN (jR ss) at_)) (jT ss (cN (jR ss) at_)).size).2 := congrArg Prod.snd hg
  rw [e2]
  exact go_mono _ _ _ _
/-- Lines that are drawn: few, short, without a newline. -/
theorem jn_of {ss : List ByteArray} (hl : ss.length ≤ 5) (h : ∀ s ∈ ss, tx s 1200) : JnF ss := by
  have hat : ∀ k, k < ss.length → tx (ss.getD k emB) 1200 := by
    intro k hk
    have : ss.getD k emB = ss[k] := by simp [List.getD, hk]
    rw [this]; exact h _ (List.getElem_mem hk)
  refine ⟨noNL_of fun k hk => (hat k hk).1, ?_⟩
  have key : ∀ k, k ≤ ss.length → (jT ss k).size ≤ k * 1207 := by
    intro k
    induction k with
    | zero => intro _; exact Nat.zero_le _
    | succ k ih =>
      intro hk
      have h1 := ih (by omega)
      have h2 := (hat k (by omega)).2
      have h3 := (tx_dec (Nat.lt_trans (jC_lt ss (k + 1)) (by decide))).2
      rw [jT_s, app_size, ln1_size]
      omega
  have := key ss.length (Nat.le_refl _)
  omega
theorem jn_sizes {ss : List ByteArray} (h : ∀ s ∈ ss, tx s 1200) : ∀ i, i < ss.length → (ss.getD i emB).size ≤ 1048576 := by
  intro k hk
  have : ss.getD k emB = ss[k] := by simp [List.getD, hk]
  rw [this]
  have := (h _ (List.getElem_mem hk)).2
  omega
theorem jn_empty {ss : List ByteArray} (h : JnF ss) (h0 : (jR ss).size = 0) : ss.length = 0 := by
  rw [h.ok.2] at h0
  cases hs : ss.length with
  | zero => rfl
  | succ k =>
    have := jT_lo ss k
    rw [hs] at h0
    omega
end Go.Proofs.YtmecikeaogjmpaaDoor


namespace Go.Proofs.YtmecikeaogjmpaaDoor
open Go.RowKit

/-! ### alike but for the sign of a zero -/
def zw0 (a : Nat) : Prop := a = 0 ∨ a = 2147483648
def zq (a b : Nat) : Prop := a = b ∨ (zw0 a ∧ zw0 b)
theorem zq.refl (a : Nat) : zq a a := .inl rfl
def zq3 (a b : V3) : Prop := zq a.1 b.1 ∧ zq a.2.1 b.2.1 ∧ zq a.2.2 b.2.2
theorem zq3.refl (a : V3) : zq3 a a := ⟨.refl _, .refl _, .refl _⟩
/-! ### floors -/
/-! ### the node before a place -/
theorem cutz_le (s : Bool) (n d : Nat) : Ieee.Toward.zero.cut s n d ≤ n / 2 ^ d := by
  unfold Ieee.Toward.cut
  simp only [Bool.toNat_false, Nat.add_zero, Nat.shiftLeft_eq, Nat.one_mul]
  by_cases h : d ≤ n.log2 + 2
  · rw [Nat.min_eq_left h]; exact Nat.le_refl _
  · rw [Nat.min_eq_right (by omega)]
    have : n / 2 ^ (n.log2 + 2) = 0 := Nat.div_eq_of_lt (Nat.lt_of_lt_of_le Nat.lt_log2_self (Nat.pow_le_pow_right (by decide) (by omega)))
    rw [this]; exact Nat.zero_le _
/-! ### the value between nodes -/
section
variable {vs : List V3} {W H D y z : Nat} {c c' d d' e e' : Nat × Nat}
end
/-! ### what has no number has no distance -/
/-! ### the worst -/
def hvN (n : Nat) : Nat := if n = 1 then 1 else n - 1
def mid (n x : Nat) : Nat := if n = 1 then 0 else fop .add .f32 (FloatKind.f32.nearest (x : Int)) 1056964608
def hv (n : Nat) : List Nat := (List.range (hvN n)).map (mid n)
def act (n x : Nat) : Bool := decide (n = 1 ∨ x + 1 < n)
section
variable {ws : List Wr} {vs : List V3} {f p : V3} {st W H D x y z k a b s : Nat}
end
section
variable {ws : List Wr} {vs : List V3} {f : V3} {st : Nat} {wi hi de : Int}
end
/-! ### words for the walks -/
section
variable {u : Nat} {n : Int} {X i : Nat}
end
section
variable {ws : List Wr} {vs : List V3} {f : V3} {st W H D x y z k : Nat}
end
/-! ### remainder, quotient of what is not negative -/
section
variable {P : Program} {E : Env} {o : Oper}
end
end Go.Proofs.YtmecikeaogjmpaaDoor


namespace Go.Proofs.YtmecikeaogjmpaaDoor
open Go.RowKit Go.ChangeShapes Go.WideShapes Go.Deep

section
variable {H : Type} {enc : TypeId × Value → H} {P : Program} {w : World} {base : Nat} {spare : Nat → Bool} {held : Bool}

end
end Go.Proofs.YtmecikeaogjmpaaDoor


namespace Go.Proofs.YtmecikeaogjmpaaDoor
open Go.RowKit Go.ChangeShapes Go.WideShapes Go.Deep

section
variable {H : Type} {enc : TypeId × Value → H} {P : Program} {w : World} {base : Nat} {spare : Nat → Bool} {held : Bool}

end
end Go.Proofs.YtmecikeaogjmpaaDoor


namespace Go.Proofs.YtmecikeaogjmpaaDoor
open Go.RowKit Go.ChangeShapes Go.WideShapes Go.Deep

abbrev Pl := V3 × Nat
def zp : Pl := (z3, 0)
def pcs (p : Pl) : List Value := [.float .f32 p.1.1, .float .f32 p.1.2.1, .float .f32 p.1.2.2, .float .f32 p.2]
def pl : List Pl → List Value
  | [] => []
  | p :: ps => .float .f32 p.1.1 :: .float .f32 p.1.2.1 :: .float .f32 p.1.2.2 :: .float .f32 p.2 :: pl ps
theorem pl_length : ∀ ps : List Pl, (pl ps).length = ps.length * 4
  | [] => rfl
  | p :: ps => by simp only [pl, List.length_cons, pl_length ps]; omega
theorem pl_append : ∀ us vs : List Pl, pl us ++ pl vs = pl (us ++ vs)
  | [], vs => rfl
  | u :: us, vs => by simp only [pl, List.cons_append, pl_append us vs]
theorem pl_take : ∀ (ps : List Pl) (k : Nat), k < ps.length → ((pl ps).drop (k * 4)).take 4 = pcs (ps.getD k zp)
  | [], _, h => by simp at h
  | p :: ps, 0, _ => rfl
  | p :: ps, k + 1, h => by
    have ih := pl_take ps k (by simpa using h)
    rw [show (k + 1) * 4 = k * 4 + 1 + 1 + 1 + 1 by omega]
    simpa [pl, List.getD] using ih
theorem takeN_get {us cs : List Value} {k z j : Nat} (h : (us.drop k).take z = cs) (hj : j < z) : us[k + j]? = cs[j]? := by
  rw [← h, List.getElem?_take, if_pos hj, List.getElem?_drop]
theorem pl_get {ps : List Pl} {i : Nat} (h : i < ps.length * 4) : (pl ps)[i]? = (pcs (ps.getD (i / 4) zp))[i % 4]? := by
  have hk : i / 4 < ps.length := by omega
  have := takeN_get (pl_take ps (i / 4) hk) (j := i % 4) (by omega)
  rwa [show i / 4 * 4 + i % 4 = i by omega] at this
def Can4 (p : Pl) : Prop := Can3 p.1 ∧ Can .f32 p.2
def Cans4 (ps : List Pl) : Prop := ∀ p ∈ ps, Can4 p
theorem Cans4.row {ps : List Pl} (h : Cans4 ps) {k : Nat} (hk : k < ps.length) : Can4 (ps.getD k zp) := h _ (by simp [hk])
section
variable {P : Program} {n : Nat} {w0 : World} {O : List Ent} {E : Env} {o : Oper}
end

/-! ### a list of poles as an argument -/
section
variable {H : Type} {enc : TypeId × Value → H} {P : Program} {w : World} {base : Nat} {spare : Nat → Bool} {held : Bool}
end

/-! ### circuits -/
theorem sq_lt {n i j : Nat} (hi : i < n) (hj : j < n) : i * n + j < n * n := by
  have : i * n + n ≤ n * n := by rw [← Nat.succ_mul]; exact Nat.mul_le_mul_right _ hi
  omega
theorem Pick.e3 {O1 O2 O F : List Ent} {e1 e2 e3 : Ent} (h1 : Rem O [e1] O1) (h2 : Rem O1 [e2] O2) (h3 : Rem O2 [e3] F) : Pick O [e1, e2, e3] F := Pick.take h1 (Pick.take h2 (Pick.take h3 .nil))
/-! ### the field of poles -/
section
variable {ws : List Wr} {ps : List Pl} {xs ys zs : List Nat} {v : V3}
end
end Go.Proofs.YtmecikeaogjmpaaDoor


namespace Go.Proofs.YtmecikeaogjmpaaDoor
open Go.RowKit Go.Lib
section
variable {P : Program} {w0 : World} {O : List Ent} {E : Env} {o : Oper}
theorem yr_catT {t ty : TypeId} {x y : Operand} {a b : ByteArray} {m k : Nat} (ho : o.op = .binOp .add t x y ty) (hx : E.opd x = some (.string a)) (hy : E.opd y = some (.string b)) (ha : tx a m) (hb : tx b k) (h : m + k ≤ 1000000000) : YR P E o (.string (a ++ b)) :=
  yr_strAdd ho hx hy (by have := ha.2; have := hb.2; omega) rfl
/-- A number, whichever. -/
theorem yn_anyF {k : FloatKind} {u : Nat} (h : YR P E o (.float k u)) : YN P w0 O E o (fun v : Nat => .float k v) (fun _ => []) := fun ρ w hE _ =>
  (h ρ w hE).mono fun v w' ⟨h1, h2⟩ => ⟨u, h1, h2, (fun _ hf => by cases hf), List.Pairwise.nil⟩
end
def txsB (ss : List ByteArray) (m : Nat) : Bool := ss.all fun s => decide ((10 : UInt8) ∉ s.data.toList) && decide (s.size ≤ m)
theorem txs_of {ss : List ByteArray} {m : Nat} (h : txsB ss m = true) : ∀ s ∈ ss, tx s m := by
  intro s hs
  have := List.all_eq_true.1 h s hs
  simp only [Bool.and_eq_true, decide_eq_true_eq] at this
  exact this
theorem txs_get {ss : List ByteArray} {m k : Nat} (h : ∀ s ∈ ss, tx s m) (hk : k < ss.length) : tx (ss.getD k emB) m := by
  have : ss.getD k emB = ss[k] := by simp [List.getD, hk]
  rw [this]; exact h _ (List.getElem_mem hk)
theorem txs_app {ss : List ByteArray} {m : Nat} {s : ByteArray} (h : ∀ s ∈ ss, tx s m) (hs : tx s m) : ∀ t ∈ ss ++ [s], tx t m := by
  intro t ht
  rcases List.mem_append.1 ht with h1 | h1
  · exact h t h1
  · rw [List.mem_singleton.1 h1]; exact hs
theorem tx_nil (m : Nat) : tx ⟨#[]⟩ m := ⟨by simp, Nat.zero_le _⟩
instance txNe {m : Nat} : Nonempty {s : ByteArray // tx s m} := ⟨⟨⟨#[]⟩, tx_nil m⟩⟩
/-! ### hexadecimals -/
def hexs : ByteArray := ⟨#[48, 49, 50, 51, 52, 53, 54, 55, 56, 57, 97, 98, 99, 100, 101, 102]⟩
theorem hex_ok : ∀ i : Fin 16, sb hexs i.val ≠ 10 ∧ sb hexs i.val < 256 := by decide
def HexI (t : List Int) (k : Nat) : Prop := t.length + k = 8 ∧ ∀ b ∈ t, 0 ≤ b ∧ b < 256 ∧ b ≠ 10
theorem hexI_0 : HexI [] 8 := ⟨rfl, fun b h => by cases h⟩
theorem hexI_s {t : List Int} {k i : Nat} (h : HexI t k) (hk : 1 ≤ k) (hi : i < 16) : HexI (t ++ [(sb hexs i : Int)]) (k - 1) := by
  refine ⟨by rw [List.length_append, List.length_singleton]; have := h.1; omega, fun b hb => ?_⟩
  rcases List.mem_append.1 hb with hb | hb
  · exact h.2 b hb
  · rw [List.mem_singleton.1 hb]
    have := hex_ok ⟨i, hi⟩
    simp only at this
    omega
theorem hexI_tx {t : List Int} {k : Nat} (h : HexI t k) : tx (stb t) 8 := tx_stb h.2 (by have := h.1; omega)
def nib (q : Int) : Nat := (q % 2 ^ IntKind.i64.bits).toNat % 2 ^ 4
theorem nib_lt (q : Int) : nib q < 16 := Nat.mod_lt _ (by decide)
theorem nib_is (q : Int) : IntKind.i64.wrap (((q % 2 ^ IntKind.i64.bits).toNat &&& ((15 : Int) % 2 ^ IntKind.i64.bits).toNat : Nat)) = (nib q : Int) := by
  have e1 : ((15 : Int) % 2 ^ IntKind.i64.bits).toNat = 2 ^ 4 - 1 := by decide
  rw [e1, Nat.and_two_pow_sub_one_eq_mod]
  have := nib_lt q
  exact wrap_in (by unfold nib at *; omega)
def shz (z : Int) (k : Nat) : Int := z.fdiv (2 ^ (min (4 * k - 4) IntKind.i64.bits))
theorem bl_snoc1 (t : List Int) (x : Int) : bl t ++ [.int .u8 x] = bl (t ++ [x]) := bl_append t [x]
def w32 (x : Int) : Nat := (IntKind.u32.wrap x).toNat
theorem w32_is (x : Int) : IntKind.u32.wrap x = ((w32 x : Nat) : Int) := by
  unfold w32 IntKind.wrap
  simp [IntKind.signed, IntKind.bits]
  omega
/-! ### whole numbers out of doubles -/
theorem toI_ok {x : Nat} (h1 : fcmp .neq .f64 (fop .sub .f64 x x) 0 = false) (h2 : fcmp .geq .f64 x 4841369599423283200 = false) (h3 : fcmp .leq .f64 x 14064741636278059008 = false) : ∃ i, floatToIntVal .f64 x .i64 = some i := by
  have hK : Ieee.double.read 4841369599423283200 = .number false (2 ^ 52) 0 := by decide
  have hL : Ieee.double.read 14064741636278059008 = .number true (2 ^ 52) 0 := by decide
  have hg : ((Ieee.double.read x).order (Ieee.double.read 4841369599423283200) == some .gt || (Ieee.double.read x).order (Ieee.double.read 4841369599423283200) == some .eq) = false := h2
  have hl : ((Ieee.double.read x).order (Ieee.double.read 14064741636278059008) == some .lt || (Ieee.double.read x).order (Ieee.double.read 14064741636278059008) == some .eq) = false := h3
  rw [hK] at hg
  rw [hL] at hl
  cases hx : Ieee.double.read x with
  | nan s f =>
    exfalso
    have : fop .sub .f64 x x = qn .f64 := by unfold fop floatBits Ieee.Format.sub; simp [show FloatKind.f64.format = Ieee.double from rfl, hx, Ieee.Datum.opposite, Ieee.Datum.sum]
    rw [this] at h1; revert h1; decide
  | infinity s =>
    exfalso
    have : fop .sub .f64 x x = qn .f64 := by unfold fop floatBits Ieee.Format.sub; cases s <;> simp [show FloatKind.f64.format = Ieee.double from rfl, hx, Ieee.Datum.opposite, Ieee.Datum.sum]
    rw [this] at h1; revert h1; decide
  | number s m e =>
    rw [hx] at hg hl
    simp only [Ieee.Datum.order] at hg hl
    have hlt : Ieee.signed s m (e - min e 0).toNat < Ieee.signed false (2 ^ 52) (0 - min e 0).toNat := by
      rcases hc : compare (Ieee.signed s m (e - min e 0).toNat) (Ieee.signed false (2 ^ 52) (0 - min e 0).toNat) with _ | _ | _
      · exact Int.compare_eq_lt.1 hc
      · rw [hc] at hg; cases hg
      · rw [hc] at hg; cases hg
    have hgt : Ieee.signed true (2 ^ 52) (0 - min e 0).toNat < Ieee.signed s m (e - min e 0).toNat := by
      rcases hc : compare (Ieee.signed s m (e - min e 0).toNat) (Ieee.signed true (2 ^ 52) (0 - min e 0).toNat) with _ | _ | _
      · rw [hc] at hl; cases hl
      · rw [hc] at hl; cases hl
      · exact Int.compare_eq_gt.1 hc
    have hle : m * 2 ^ (e - min e 0).toNat ≤ 2 ^ 52 * 2 ^ (0 - min e 0).toNat := by
      unfold Ieee.signed at hlt hgt
      simp only [shl_eq, if_true, Bool.false_eq_true, if_false] at hlt hgt
      generalize m * 2 ^ (e - min e 0).toNat = A at *
      generalize 2 ^ 52 * 2 ^ (0 - min e 0).toNat = B at *
      cases s <;> simp at hlt hgt <;> omega
    have hcut : Ieee.Toward.zero.cut s (m <<< e.toNat) (-e).toNat ≤ 2 ^ 52 := by
      refine Nat.le_trans (cutz_le _ _ _) ?_
      rw [shl_eq]
      rcases Int.le_total e 0 with h | h
      · have e1 : (e - min e 0).toNat = 0 := by omega
        have e2 : (0 - min e 0).toNat = (-e).toNat := by omega
        rw [e1, e2, Nat.pow_zero, Nat.mul_one] at hle
        rw [show e.toNat = 0 by omega, Nat.pow_zero, Nat.mul_one]
        exact Nat.div_le_of_le_mul (by rw [Nat.mul_comm]; exact hle)
      · have e1 : (e - min e 0).toNat = e.toNat := by omega
        have e2 : (0 - min e 0).toNat = 0 := by omega
        rw [e1, e2, Nat.pow_zero, Nat.mul_one] at hle
        rw [show (-e).toNat = 0 by omega, Nat.pow_zero, Nat.div_one]; exact hle
    refine ⟨Ieee.signed s (Ieee.Toward.zero.cut s (m <<< e.toNat) (-e).toNat) 0, ?_⟩
    have hx' : FloatKind.f64.decode x = .number s m e := hx
    unfold floatToIntVal
    rw [hx']
    simp only [Ieee.Datum.toInt, Ieee.Datum.integral]
    have hmin : IntKind.i64.min = -9223372036854775808 := by decide
    have hmax : IntKind.i64.max = 9223372036854775807 := by decide
    rw [if_pos]
    unfold Ieee.signed
    rw [hmin, hmax, shl_eq, Nat.pow_zero, Nat.mul_one]
    generalize Ieee.Toward.zero.cut s (m <<< e.toNat) (-e).toNat = c at *
    have hc : c ≤ 4503599627370496 := hcut
    split <;> omega
/-! ### rows of numbers -/
def ilz (ns : List Int) : List Value := ns.map fun n => .int .i64 n
theorem ilz_length (ns : List Int) : (ilz ns).length = ns.length := by simp [ilz]
theorem ilz_get {ns : List Int} {k : Nat} (h : k < ns.length) : (ilz ns)[k]? = some (.int .i64 (ns.getD k 0)) := by simp [ilz, h]
theorem pl_at0 {ps : List Pl} {k : Nat} (h : k < ps.length) : ((pl ps).drop (k * 4 + 0)).take 3 = vcs (ps.getD k zp).1 := by
  have h1 := pl_take ps k h
  have h2 := congrArg (List.take 3) h1
  rw [List.take_take] at h2
  exact h2
theorem pl_at3 {ps : List Pl} {k : Nat} (h : k < ps.length) : (pl ps)[k * 4 + 3]? = some (.float .f32 (ps.getD k zp).2) := by
  have h1 := pl_get (ps := ps) (i := k * 4 + 3) (by omega)
  rw [h1, show (k * 4 + 3) / 4 = k by omega, show (k * 4 + 3) % 4 = 3 by omega]; rfl
theorem pl_snoc (us : List Pl) (v : Pl) : pl us ++ [.float .f32 v.1.1, .float .f32 v.1.2.1, .float .f32 v.1.2.2, .float .f32 v.2] = pl (us ++ [v]) := pl_append us [v]
theorem pl_scal : ∀ ps : List Pl, (pl ps).all scal = true
  | [] => rfl
  | p :: ps => by simp only [pl, List.all_cons, pl_scal ps, scal, Bool.and_self]
instance dxNe {α : Type} [h : Nonempty α] {n K : Nat} : Nonempty {x : α × Nat × Nat // (True) ∧ x.2.2 < 18446744073709551616 ∧ n ≤ x.2.1 ∧ x.2.1 ≤ n + K} :=
  h.elim fun a => ⟨⟨(a, n, 0), trivial, (show 0 < 18446744073709551616 by decide), Nat.le_refl _, Nat.le_add_right _ _⟩⟩
instance lenNe {α : Type} {m : Nat} : Nonempty {xs : List α // xs.length ≤ m} := ⟨⟨[], Nat.zero_le _⟩⟩
theorem fl_take (xs : List Nat) (k : Nat) : (fl xs).take k = fl (xs.take k) := by simp [fl, List.map_take]
end Go.Proofs.YtmecikeaogjmpaaDoor


namespace Go.Proofs.YtmecikeaogjmpaaDoor
open Go.RowKit
set_option linter.unusedVariables false
set_option linter.unusedSimpArgs false
set_option maxRecDepth 20000




end Go.Proofs.YtmecikeaogjmpaaDoor


namespace Go.Proofs.YtmecikeaogjmpaaDoor
open Go.RowKit
set_option linter.unusedVariables false
set_option linter.unusedSimpArgs false
set_option maxRecDepth 20000




end Go.Proofs.YtmecikeaogjmpaaDoor


namespace Go.Proofs
open Go.Shelf
def Tryd.lays170_ren : Go.Shelf.Ren := ⟨fun | 170 => 29 | n => n, fun | 70 => 51 | 3 => 3 | 0 => 0 | 72 => 53 | 37 => 34 | 5 => 5 | n => n, fun | n => n⟩
theorem Tryd.lays170 : Go.Proofs.Lays.n170 Tryd.prog Tryd.lays170_ren := {
  mixed := by kernel_rfl
  f170 := Tryd.func29.trans (congrArg some (by kernel_rfl))
  t0 := Tryd.underlying0
  a0 := Tryd.isAgg0
  z0 := Tryd.sizeOf0
  v0 := Tryd.zeroValue0
  t3 := Tryd.underlying3
  a3 := Tryd.isAgg3
  z3 := Tryd.sizeOf3
  v3 := Tryd.zeroValue3
  t37 := Tryd.underlying34
  a37 := Tryd.isAgg34
  z37 := Tryd.sizeOf34
  v37 := Tryd.zeroValue34
  t70 := Tryd.underlying51
  a70 := Tryd.isAgg51
  z70 := Tryd.sizeOf51
  v70 := Tryd.zeroValue51
  t72 := Tryd.underlying53
  a72 := Tryd.isAgg53
  z72 := Tryd.sizeOf53
  v72 := Tryd.zeroValue53 }
open Go.RowKit in
/-- (*strings.Builder).Len: "Len returns the number of accumulated bytes; b.Len() == len(b.String()).": the world is as it was. (LAID: no walk: one application.) -/
theorem Tryd.Builder_Len (B b : Nat) (bs : List Value) (w : World) (h : Lib.IsBuilder 53 5 B b bs w) :
    Calls Tryd.prog 29 #[.pointer (some ⟨b, 0, none⟩)] w fun e w' => e = .returned (.int .i64 bs.length) ∧ w' = w := Any.Builder_Len Tryd.lays170 B b bs w h
def Tryd.lays169_ren : Go.Shelf.Ren := ⟨fun | 169 => 30 | n => n, fun | 70 => 51 | 9 => 9 | 0 => 0 | 72 => 53 | 37 => 34 | 127 => 81 | 3 => 3 | 5 => 5 | n => n, fun | n => n⟩
theorem Tryd.lays169 : Go.Proofs.Lays.n169 Tryd.prog Tryd.lays169_ren := {
  mixed := by kernel_rfl
  f169 := Tryd.func30.trans (congrArg some (by kernel_rfl))
  t0 := Tryd.underlying0
  a0 := Tryd.isAgg0
  z0 := Tryd.sizeOf0
  v0 := Tryd.zeroValue0
  t3 := Tryd.underlying3
  a3 := Tryd.isAgg3
  z3 := Tryd.sizeOf3
  v3 := Tryd.zeroValue3
  t9 := Tryd.underlying9
  a9 := Tryd.isAgg9
  z9 := Tryd.sizeOf9
  v9 := Tryd.zeroValue9
  t37 := Tryd.underlying34
  a37 := Tryd.isAgg34
  z37 := Tryd.sizeOf34
  v37 := Tryd.zeroValue34
  t70 := Tryd.underlying51
  a70 := Tryd.isAgg51
  z70 := Tryd.sizeOf51
  v70 := Tryd.zeroValue51
  t72 := Tryd.underlying53
  a72 := Tryd.isAgg53
  z72 := Tryd.sizeOf53
  v72 := Tryd.zeroValue53
  t127 := Tryd.underlying81
  a127 := Tryd.isAgg81
  z127 := Tryd.sizeOf81
  v127 := Tryd.zeroValue81 }
theorem Tryd.Builder_Extra_169 : Builder.Extra Tryd.prog Tryd.lays169_ren := {
  sizeBuilder := by kernel_rfl
  liesBuilder := by kernel_rfl
  t5 := Tryd.underlying5
  a5 := Tryd.isAgg5
  z5 := Tryd.sizeOf5
  v5 := Tryd.zeroValue5
  infoByte := by kernel_rfl
  cellsByte := by kernel_rfl
  sizeByte := by kernel_rfl
  neB5 := by decide }
open Go.RowKit in
/-- (*strings.Builder).String: "String returns the accumulated string.": WHATEVER THE BUILDER HOLDS. (LAID: no walk: one application.) -/
theorem Tryd.Builder_String_any (B b : Nat) (l : List UInt8) (w : World) (h : Lib.IsBuilder 53 5 B b (Lib.byteCells l) w) (hBw : B ≤ w.heap.size) :
    Calls Tryd.prog 30 #[.pointer (some ⟨b, 0, none⟩)] w fun e w' => e = .returned (.string ⟨l.toArray⟩) ∧ Below B w w' := Any.Builder_String_any Tryd.lays169 Tryd.Builder_Extra_169 B b l w h hBw
def Tryd.lays137_ren : Go.Shelf.Ren := ⟨fun | 137 => 46 | 217 => 69 | 266 => 85 | n => n, fun | 9 => 9 | 5 => 5 | 3 => 3 | n => n, fun | n => n⟩
theorem Tryd.lays137 : Go.Proofs.Lays.n137 Tryd.prog Tryd.lays137_ren := {
  mixed := by kernel_rfl
  f137 := Tryd.func46.trans (congrArg some (by kernel_rfl))
  f217 := Tryd.func69.trans (congrArg some (by kernel_rfl))
  f266 := Tryd.func85.trans (congrArg some (by kernel_rfl))
  t3 := Tryd.underlying3
  a3 := Tryd.isAgg3
  z3 := Tryd.sizeOf3
  v3 := Tryd.zeroValue3
  t5 := Tryd.underlying5
  a5 := Tryd.isAgg5
  z5 := Tryd.sizeOf5
  v5 := Tryd.zeroValue5
  t9 := Tryd.underlying9
  a9 := Tryd.isAgg9
  z9 := Tryd.sizeOf9
  v9 := Tryd.zeroValue9 }
open Go.RowKit in
/-- strings.IndexByte: "IndexByte returns the index of the first instance of c in s, or -1 if c is not present in s.": IT RETURNS 'Lib.indexByte s c'; the world is as it was. (LAID: no walk: one application.) -/
theorem Tryd.strings_IndexByte (s : ByteArray) (c : Int) (w : World) :
    Calls Tryd.prog 46 #[.string s, .int .u8 c] w fun e w' => e = .returned (.int .i64 (Lib.indexByte s.data.toList c.toNat.toUInt8)) ∧ w' = w := Any.strings_IndexByte Tryd.lays137 s c w
def Tryd.laysM173_ren : Go.Shelf.Ren := ⟨fun | 173 => 45 | 246 => 68 | 283 => 81 | 284 => 82 | 285 => 83 | 286 => 84 | 129 => 98 | 317 => 97 | 318 => 99 | 319 => 100 | 320 => 101 | 337 => 107 | 338 => 108 | n => n, fun | 2 => 2 | 3 => 3 | 9 => 9 | 4 => 4 | 171 => 128 | 0 => 0 | 53 => 85 | 37 => 34 | 5 => 5 | 173 => 131 | 212 => 147 | 51 => 133 | 20 => 20 | 213 => 148 | 46 => 121 | 232 => 163 | 233 => 164 | n => n, fun | 17 => 1 | 18 => 5 | 19 => 6 | n => n⟩
theorem Tryd.laysM173 : Go.Proofs.LaysM.n173 Tryd.prog Tryd.laysM173_ren := {
  mixed := by kernel_rfl
  f129 := Tryd.func98.trans (congrArg some (by kernel_rfl))
  f173 := Tryd.func45.trans (congrArg some (by kernel_rfl))
  f246 := Tryd.func68.trans (congrArg some (by kernel_rfl))
  f283 := Tryd.func81.trans (congrArg some (by kernel_rfl))
  f284 := Tryd.func82.trans (congrArg some (by kernel_rfl))
  f285 := Tryd.func83.trans (congrArg some (by kernel_rfl))
  f286 := Tryd.func84.trans (congrArg some (by kernel_rfl))
  f317 := Tryd.func97.trans (congrArg some (by kernel_rfl))
  f318 := Tryd.func99.trans (congrArg some (by kernel_rfl))
  f319 := Tryd.func100.trans (congrArg some (by kernel_rfl))
  f320 := Tryd.func101.trans (congrArg some (by kernel_rfl))
  f337 := Tryd.func107.trans (congrArg some (by kernel_rfl))
  f338 := Tryd.func108.trans (congrArg some (by kernel_rfl))
  t0 := Tryd.underlying0
  a0 := Tryd.isAgg0
  z0 := Tryd.sizeOf0
  v0 := Tryd.zeroValue0
  t2 := Tryd.underlying2
  a2 := Tryd.isAgg2
  z2 := Tryd.sizeOf2
  v2 := Tryd.zeroValue2
  t3 := Tryd.underlying3
  a3 := Tryd.isAgg3
  z3 := Tryd.sizeOf3
  v3 := Tryd.zeroValue3
  t4 := Tryd.underlying4
  a4 := Tryd.isAgg4
  z4 := Tryd.sizeOf4
  v4 := Tryd.zeroValue4
  t5 := Tryd.underlying5
  a5 := Tryd.isAgg5
  z5 := Tryd.sizeOf5
  v5 := Tryd.zeroValue5
  t9 := Tryd.underlying9
  a9 := Tryd.isAgg9
  z9 := Tryd.sizeOf9
  v9 := Tryd.zeroValue9
  t20 := Tryd.underlying20
  a20 := Tryd.isAgg20
  z20 := Tryd.sizeOf20
  v20 := Tryd.zeroValue20
  t37 := Tryd.underlying34
  a37 := Tryd.isAgg34
  z37 := Tryd.sizeOf34
  v37 := Tryd.zeroValue34
  t46 := Tryd.underlying121
  a46 := Tryd.isAgg121
  z46 := Tryd.sizeOf121
  v46 := Tryd.zeroValue121
  t51 := Tryd.underlying133
  a51 := Tryd.isAgg133
  z51 := Tryd.sizeOf133
  v51 := Tryd.zeroValue133
  t53 := Tryd.underlying85
  a53 := Tryd.isAgg85
  z53 := Tryd.sizeOf85
  v53 := Tryd.zeroValue85
  t171 := Tryd.underlying128
  a171 := Tryd.isAgg128
  z171 := Tryd.sizeOf128
  v171 := Tryd.zeroValue128
  t173 := Tryd.underlying131
  a173 := Tryd.isAgg131
  z173 := Tryd.sizeOf131
  v173 := Tryd.zeroValue131
  t212 := Tryd.underlying147
  a212 := Tryd.isAgg147
  z212 := Tryd.sizeOf147
  v212 := Tryd.zeroValue147
  t213 := Tryd.underlying148
  a213 := Tryd.isAgg148
  z213 := Tryd.sizeOf148
  t232 := Tryd.underlying163
  a232 := Tryd.isAgg163
  z232 := Tryd.sizeOf163
  v232 := Tryd.zeroValue163
  t233 := Tryd.underlying164
  a233 := Tryd.isAgg164
  z233 := Tryd.sizeOf164
  v233 := Tryd.zeroValue164
  g17 := by kernel_rfl
  g18 := by kernel_rfl
  g19 := by kernel_rfl
  i0 := by kernel_rfl
  i2 := by kernel_rfl
  i3 := by kernel_rfl
  i4 := by kernel_rfl
  i5 := by kernel_rfl
  i9 := by kernel_rfl
  i20 := by kernel_rfl
  i37 := by kernel_rfl
  i46 := by kernel_rfl
  i51 := by kernel_rfl
  i53 := by kernel_rfl
  i171 := by kernel_rfl
  i173 := by kernel_rfl
  i212 := by kernel_rfl
  i232 := by kernel_rfl
  i233 := by kernel_rfl
  m17 := by kernel_rfl
  m18 := by kernel_rfl
  m19 := by kernel_rfl }
open Go.RowKit Go.Sort Go.Lib in
/-- strconv.FormatInt: "FormatInt returns the string representation of i in the given base": AT BASE 10: i's decimal numeral, for every int64. (LAID: no walk: one application.) -/
theorem Tryd.strconv_FormatInt_10 (n : Int) (h0 : -9223372036854775808 ≤ n) (h1 : n ≤ 9223372036854775807) (w : World) (htab : Lib.TabIs Tryd.prog w "internal/strconv.uint64pow10" .u64 Lib.pow10Tab) :
    Calls Tryd.prog 45 #[.int .i64 n, .int .i64 10] w fun e w' => e = .returned (.string ⟨(Lib.itoa n).toArray⟩) ∧ ∃ k os, w' = grow (w.drewN k) os := Any.strconv_FormatInt_10 Tryd.laysM173 n h0 h1 w htab
def Tryd.lays144_ren : Go.Shelf.Ren := ⟨fun | 144 => 25 | 143 => 42 | 219 => 66 | 217 => 69 | 225 => 78 | 224 => 79 | 267 => 80 | 266 => 85 | 314 => 96 | n => n, fun | 9 => 9 | 4 => 4 | 3 => 3 | 5 => 5 | 46 => 121 | 146 => 144 | 51 => 133 | n => n, fun | 1 => 0 | n => n⟩
theorem Tryd.lays144 : Go.Proofs.Lays.n144 Tryd.prog Tryd.lays144_ren := {
  mixed := by kernel_rfl
  f143 := Tryd.func42.trans (congrArg some (by kernel_rfl))
  f144 := Tryd.func25.trans (congrArg some (by kernel_rfl))
  f217 := Tryd.func69.trans (congrArg some (by kernel_rfl))
  f219 := Tryd.func66.trans (congrArg some (by kernel_rfl))
  f224 := Tryd.func79.trans (congrArg some (by kernel_rfl))
  f225 := Tryd.func78.trans (congrArg some (by kernel_rfl))
  f266 := Tryd.func85.trans (congrArg some (by kernel_rfl))
  f267 := Tryd.func80.trans (congrArg some (by kernel_rfl))
  f314 := Tryd.func96.trans (congrArg some (by kernel_rfl))
  t3 := Tryd.underlying3
  a3 := Tryd.isAgg3
  z3 := Tryd.sizeOf3
  v3 := Tryd.zeroValue3
  t4 := Tryd.underlying4
  a4 := Tryd.isAgg4
  z4 := Tryd.sizeOf4
  v4 := Tryd.zeroValue4
  t5 := Tryd.underlying5
  a5 := Tryd.isAgg5
  z5 := Tryd.sizeOf5
  v5 := Tryd.zeroValue5
  t9 := Tryd.underlying9
  a9 := Tryd.isAgg9
  z9 := Tryd.sizeOf9
  v9 := Tryd.zeroValue9
  t46 := Tryd.underlying121
  a46 := Tryd.isAgg121
  z46 := Tryd.sizeOf121
  v46 := Tryd.zeroValue121
  t51 := Tryd.underlying133
  a51 := Tryd.isAgg133
  z51 := Tryd.sizeOf133
  v51 := Tryd.zeroValue133
  t146 := Tryd.underlying144
  a146 := Tryd.isAgg144
  z146 := Tryd.sizeOf144
  v146 := Tryd.zeroValue144
  g1 := by kernel_rfl }
open Go.RowKit Go.Lib in
/-- strings.Contains: "Contains reports whether substr is within s.": AT A substr OF ONE BYTE c: IT RETURNS 'decide (0 ≤ Lib.indexByte s c)'; the world is as it was. (LAID: no walk: one application.) -/
theorem Tryd.strings_Contains_one (s : ByteArray) (c : UInt8) (w : World) :
    Calls Tryd.prog 25 #[.string s, .string ⟨#[c]⟩] w fun e w' => e = .returned (.bool (decide (0 ≤ Lib.indexByte s.data.toList c))) ∧ w' = w := Any.strings_Contains_one Tryd.lays144 s c w
def Tryd.lays145_ren : Go.Shelf.Ren := ⟨fun | 145 => 47 | 220 => 70 | 219 => 66 | 217 => 69 | 225 => 78 | 224 => 79 | 267 => 80 | 266 => 85 | 314 => 96 | n => n, fun | 9 => 9 | 4 => 4 | 59 => 83 | 3 => 3 | 5 => 5 | 46 => 121 | 146 => 144 | 51 => 133 | n => n, fun | 1 => 0 | n => n⟩
theorem Tryd.lays145 : Go.Proofs.Lays.n145 Tryd.prog Tryd.lays145_ren := {
  mixed := by kernel_rfl
  f145 := Tryd.func47.trans (congrArg some (by kernel_rfl))
  f217 := Tryd.func69.trans (congrArg some (by kernel_rfl))
  f219 := Tryd.func66.trans (congrArg some (by kernel_rfl))
  f220 := Tryd.func70.trans (congrArg some (by kernel_rfl))
  f224 := Tryd.func79.trans (congrArg some (by kernel_rfl))
  f225 := Tryd.func78.trans (congrArg some (by kernel_rfl))
  f266 := Tryd.func85.trans (congrArg some (by kernel_rfl))
  f267 := Tryd.func80.trans (congrArg some (by kernel_rfl))
  f314 := Tryd.func96.trans (congrArg some (by kernel_rfl))
  t3 := Tryd.underlying3
  a3 := Tryd.isAgg3
  z3 := Tryd.sizeOf3
  v3 := Tryd.zeroValue3
  t4 := Tryd.underlying4
  a4 := Tryd.isAgg4
  z4 := Tryd.sizeOf4
  v4 := Tryd.zeroValue4
  t5 := Tryd.underlying5
  a5 := Tryd.isAgg5
  z5 := Tryd.sizeOf5
  v5 := Tryd.zeroValue5
  t9 := Tryd.underlying9
  a9 := Tryd.isAgg9
  z9 := Tryd.sizeOf9
  v9 := Tryd.zeroValue9
  t46 := Tryd.underlying121
  a46 := Tryd.isAgg121
  z46 := Tryd.sizeOf121
  v46 := Tryd.zeroValue121
  t51 := Tryd.underlying133
  a51 := Tryd.isAgg133
  z51 := Tryd.sizeOf133
  v51 := Tryd.zeroValue133
  t59 := Tryd.underlying83
  a59 := Tryd.isAgg83
  z59 := Tryd.sizeOf83
  v59 := Tryd.zeroValue83
  t146 := Tryd.underlying144
  a146 := Tryd.isAgg144
  z146 := Tryd.sizeOf144
  v146 := Tryd.zeroValue144
  g1 := by kernel_rfl }
open Go.RowKit Go.Lib in
/-- strings.Cut: "Cut slices s around the first instance of sep, returning the text before and after sep. The found result reports whether sep appears in s. If sep does not appear in s, cut returns s, "", false.": IT RETURNS 'Lib.cut s sep'; the world is as it was but for the count of draws. (LAID: no walk: one application.) -/
theorem Tryd.strings_Cut (s sep : ByteArray) (m : Int) (w : World) (hs : s.size < 4294967281) (hm : w.cell? ⟨0, 0, none⟩ = some (.int .i64 m)) :
    Calls Tryd.prog 47 #[.string s, .string sep] w fun e w' => e = .returned (.tuple #[.string ⟨(Lib.cut s.data.toList sep.data.toList).1.toArray⟩, .string ⟨(Lib.cut s.data.toList sep.data.toList).2.1.toArray⟩, .bool (Lib.cut s.data.toList sep.data.toList).2.2]) ∧ ∃ n, w' = w.drewN n := Any.strings_Cut Tryd.lays145 s sep m w hs hm
def Tryd.laysM146_ren : Go.Shelf.Ren := ⟨fun | 146 => 39 | 221 => 65 | 268 => 76 | 138 => 77 | 143 => 42 | 195 => 93 | 197 => 94 | 218 => 95 | 219 => 66 | 260 => 106 | 217 => 69 | 225 => 78 | 224 => 79 | 267 => 80 | 266 => 85 | 314 => 96 | n => n, fun | 9 => 9 | 31 => 25 | 3 => 3 | 4 => 4 | 0 => 0 | 105 => 142 | 21 => 21 | 5 => 5 | 46 => 121 | 119 => 159 | 139 => 162 | 138 => 161 | 146 => 144 | 51 => 133 | n => n, fun | 1 => 0 | 3 => 3 | 4 => 4 | n => n⟩
theorem Tryd.laysM146 : Go.Proofs.LaysM.n146 Tryd.prog Tryd.laysM146_ren := {
  mixed := by kernel_rfl
  f138 := Tryd.func77.trans (congrArg some (by kernel_rfl))
  f143 := Tryd.func42.trans (congrArg some (by kernel_rfl))
  f146 := Tryd.func39.trans (congrArg some (by kernel_rfl))
  f195 := Tryd.func93.trans (congrArg some (by kernel_rfl))
  f197 := Tryd.func94.trans (congrArg some (by kernel_rfl))
  f217 := Tryd.func69.trans (congrArg some (by kernel_rfl))
  f218 := Tryd.func95.trans (congrArg some (by kernel_rfl))
  f219 := Tryd.func66.trans (congrArg some (by kernel_rfl))
  f221 := Tryd.func65.trans (congrArg some (by kernel_rfl))
  f224 := Tryd.func79.trans (congrArg some (by kernel_rfl))
  f225 := Tryd.func78.trans (congrArg some (by kernel_rfl))
  f260 := Tryd.func106.trans (congrArg some (by kernel_rfl))
  f266 := Tryd.func85.trans (congrArg some (by kernel_rfl))
  f267 := Tryd.func80.trans (congrArg some (by kernel_rfl))
  f268 := Tryd.func76.trans (congrArg some (by kernel_rfl))
  f314 := Tryd.func96.trans (congrArg some (by kernel_rfl))
  t0 := Tryd.underlying0
  a0 := Tryd.isAgg0
  z0 := Tryd.sizeOf0
  v0 := Tryd.zeroValue0
  t3 := Tryd.underlying3
  a3 := Tryd.isAgg3
  z3 := Tryd.sizeOf3
  v3 := Tryd.zeroValue3
  t4 := Tryd.underlying4
  a4 := Tryd.isAgg4
  z4 := Tryd.sizeOf4
  v4 := Tryd.zeroValue4
  t5 := Tryd.underlying5
  a5 := Tryd.isAgg5
  z5 := Tryd.sizeOf5
  v5 := Tryd.zeroValue5
  t9 := Tryd.underlying9
  a9 := Tryd.isAgg9
  z9 := Tryd.sizeOf9
  v9 := Tryd.zeroValue9
  t21 := Tryd.underlying21
  a21 := Tryd.isAgg21
  z21 := Tryd.sizeOf21
  v21 := Tryd.zeroValue21
  t31 := Tryd.underlying25
  a31 := Tryd.isAgg25
  z31 := Tryd.sizeOf25
  v31 := Tryd.zeroValue25
  t46 := Tryd.underlying121
  a46 := Tryd.isAgg121
  z46 := Tryd.sizeOf121
  v46 := Tryd.zeroValue121
  t51 := Tryd.underlying133
  a51 := Tryd.isAgg133
  z51 := Tryd.sizeOf133
  v51 := Tryd.zeroValue133
  t105 := Tryd.underlying142
  a105 := Tryd.isAgg142
  z105 := Tryd.sizeOf142
  v105 := Tryd.zeroValue142
  t119 := Tryd.underlying159
  a119 := Tryd.isAgg159
  z119 := Tryd.sizeOf159
  t138 := Tryd.underlying161
  a138 := Tryd.isAgg161
  z138 := Tryd.sizeOf161
  v138 := Tryd.zeroValue161
  t139 := Tryd.underlying162
  a139 := Tryd.isAgg162
  z139 := Tryd.sizeOf162
  v139 := Tryd.zeroValue162
  t146 := Tryd.underlying144
  a146 := Tryd.isAgg144
  z146 := Tryd.sizeOf144
  v146 := Tryd.zeroValue144
  g1 := by kernel_rfl
  g3 := by kernel_rfl
  g4 := by kernel_rfl
  i0 := by kernel_rfl
  i3 := by kernel_rfl
  i4 := by kernel_rfl
  i5 := by kernel_rfl
  i9 := by kernel_rfl
  i21 := by kernel_rfl
  i31 := by kernel_rfl
  i46 := by kernel_rfl
  i51 := by kernel_rfl
  i105 := by kernel_rfl
  i138 := by kernel_rfl
  i139 := by kernel_rfl
  i146 := by kernel_rfl
  m1 := by kernel_rfl
  s1_3 := fun w h => Go.Proofs.cell_of_shapedOpen_int (zero := #[.int .i64 0]) (t := 3) h (of_decide_eq_true (by kernel_rfl)) (by kernel_rfl) rfl (by kernel_rfl) (by kernel_rfl) Tryd.underlying3
  m3 := by kernel_rfl
  m4 := by kernel_rfl }
end Go.Proofs


namespace Go.Proofs.YtmecikeaogjmpaaDoor
open Go.RowKit
set_option linter.unusedVariables false
set_option linter.unusedSimpArgs false
set_option maxRecDepth 20000

attribute [local irreducible] lnB coOk coB coG badK isBad scmp

end Go.Proofs.YtmecikeaogjmpaaDoor


namespace Go.Proofs.YtmecikeaogjmpaaDoor
open Go.RowKit
set_option linter.unusedVariables false
set_option linter.unusedSimpArgs false
set_option maxRecDepth 20000

theorem elt5_Jr : Elt Tryd.prog 5 [Value.int .u8 0] 1 := Elt.mk' (by kernel_rfl) (by decide)
theorem known43_Jr : Known Tryd.prog 43 := Known.mk' Tryd.func43 (by kernel_rfl)
theorem known45_Jr : Known Tryd.prog 45 := Known.mk' Tryd.func45 (by kernel_rfl)
theorem elt9_Jr : Elt Tryd.prog 9 [Value.string ⟨#[]⟩] 16 := Elt.mk' (by kernel_rfl) (by decide)
theorem known46_Jr : Known Tryd.prog 46 := Known.mk' Tryd.func46 (by kernel_rfl)
theorem known47_Jr : Known Tryd.prog 47 := Known.mk' Tryd.func47 (by kernel_rfl)
theorem known26_Jr : Known Tryd.prog 26 := Known.mk' Tryd.func26 (by kernel_rfl)
theorem known28_Jr : Known Tryd.prog 28 := Known.mk' Tryd.func28 (by kernel_rfl)
theorem known32_Jr : Known Tryd.prog 32 := Known.mk' Tryd.func32 (by kernel_rfl)
attribute [local irreducible] lnB mt dN chkK numT txt fnd good go recO recN rO rN rB scmp List.getD stb

theorem c_checkOf {w : World} {c : Nat} {s : ByteArray} (hc : c < 65003) (hs : s.size ≤ 1048576) : Pure Tryd.prog 26 [.int .i64 (c : Int), .string s] w (.tuple #[.int .i64 ((chk c s : Nat) : Int), .bool true]) := by
  refine Pure.enter Tryd.func26 rfl Tryd.ntmps26 (Nat.le_of_ble_eq_true rfl) ?_
  refine V.seq ?_
  refine V.region ?_
  refine VL.r (.inl rfl) rfl (by decide) (yr_assign (u := .int .i64 0) rfl rfl) ?_
  refine VL.r (.inl rfl) rfl (by decide) (yr_assign (u := .bool false) rfl rfl) ?_
  refine VL.nil ?_
  refine VE.then_wp ?_
  refine V.seq ?_
  refine V.seq ?_
  refine V.region ?_
  refine VL.r (.inl rfl) rfl (by decide) (yr_move rfl rfl) ?_
  refine VL.q (.inl rfl) rfl (by decide) (yq_callf rfl known43_Jr (.cons rfl (.cons rfl (.cons rfl .nil))) (fun w hw => c_within)) ?_
  refine VL.r (.inl rfl) rfl (by decide) (yr_not rfl rfl) ?_
  refine VL.nil ?_
  refine VE.then_wp ?_
  refine V.cond rfl (fun h1 => ?_) (fun h1 => ?_)
  · skip
    replace h1 := bnot_t h1
    exfalso; simp at h1; omega
  · skip
    replace h1 := bnot_f h1
    refine V.skip ?_
    refine VE.then_wp ?_
    refine V.seq ?_
    refine V.seq ?_
    refine V.region ?_
    refine VL.r (.inl rfl) rfl (by decide) (yr_move rfl rfl) ?_
    refine VL.r (.inl rfl) rfl (by decide) (yr_lenString rfl Tryd.underlying9 rfl) ?_
    refine VL.r (.inl rfl) rfl (by decide) (yr_move (u := .int .i64 0) rfl rfl) ?_
    refine VL.nil ?_
    refine VE.then_wp ?_
    refine V.block ?_
    refine V.loops (G := Nat) [(1, _), (11, _)] (fun (k : Nat) => k ≤ s.size) (fun (k : Nat) => [(0, .int .i64 ((chkK c s k : Nat) : Int)), (12, .int .i64 (k : Int))]) (fun (k : Nat) => s.size - k) 0 (.cons rfl (.cons rfl .nil)) (.cons (by rw [chkK_0]; rfl) (.cons rfl .nil)) ?_ ?_
    · exact (Nat.zero_le _)
    rintro k hk
    show V _ _ _ _ ([(0, .int .i64 ((chkK c s k : Nat) : Int)), (12, .int .i64 (k : Int))] ++ [(1, _), (11, _)]) _ _
    have hck := chkK_lt (s := s) hc k
    have hsb := sb_lt s k
    refine V.seq ?_
    refine V.region ?_
    refine VL.r (.inl rfl) rfl (by decide) (yr_icmp rfl (.inr (.inr (.inl rfl))) rfl rfl) ?_
    refine VL.nil ?_
    refine VE.then_wp ?_
    refine V.seq ?_
    refine V.cond rfl (fun h2 => ?_) (fun h2 => ?_)
    · skip
      replace h2 := ic_lss h2
      refine V.skip ?_
      refine VE.then_wp ?_
      refine V.seq ?_
      refine V.block ?_
      refine V.seq ?_
      refine V.region ?_
      refine VL.r (.inl rfl) rfl (by decide) (yr_move rfl rfl) ?_
      refine VL.r (.inl rfl) rfl (by decide) (yr_assign rfl rfl) ?_
      refine VL.nil ?_
      refine VE.then_wp ?_
      refine V.region ?_
      refine VL.r (.inl rfl) rfl (by decide) (yr_move rfl rfl) ?_
      refine VL.r (.inl rfl) rfl (by decide) (yr_mulN 739 (chkK c s k) rfl rfl rfl rfl rfl (by omega)) ?_
      refine VL.r (.inl rfl) rfl (by decide) (yr_move rfl rfl) ?_
      refine VL.r (.inl rfl) rfl (by decide) (yr_move rfl rfl) ?_
      refine VL.r (.inl rfl) rfl (by decide) (yr_strByte (i := k) rfl Tryd.underlying9 rfl rfl (by first | rfl | omega | (push_cast; rfl) | (push_cast; omega)) (by omega)) ?_
      refine VL.r (.inl rfl) rfl (by decide) (yr_intConv rfl Tryd.underlying5 Tryd.underlying2 rfl (wrap_in (by omega))) ?_
      refine VL.r (.inl rfl) rfl (by decide) (yr_addN (739 * chkK c s k + sb s k) rfl rfl rfl (by omega) (by omega)) ?_
      refine VL.r (.inl rfl) rfl (by decide) (yr_addN (739 * chkK c s k + sb s k + 67) rfl rfl rfl (by omega) (by omega)) ?_
      refine VL.r (.inl rfl) rfl (by decide) (yr_remN (739 * chkK c s k + sb s k + 67) 65003 rfl rfl rfl rfl rfl (by omega)) ?_
      refine VL.r (.inl rfl) rfl (by decide) (yr_assign rfl rfl) ?_
      refine VL.nil ?_
      refine VE.block_normal ?_
      refine VE.then_wp ?_
      refine V.region ?_
      refine VL.r (.inl rfl) rfl (by decide) (yr_int rfl rfl rfl (.inl ⟨rfl, wrap_in (by omega)⟩)) ?_
      refine VL.r (.inl rfl) rfl (by decide) (yr_move rfl rfl) ?_
      refine VL.nil ?_
      refine VE.round (k + 1) ?_ ?_ ?_ ?_ ?_
      · exact (.cons (by rw [chkK_s]; rfl) (.cons rfl .nil))
      · exact (.cons rfl (.cons rfl .nil))
      · exact (fun w hw => hw)
      · omega
      · (try dsimp only); omega
    · skip
      replace h2 := ic_lss' h2
      refine V.exit ?_
      refine VE.then_exit ?_
      refine VE.then_exit ?_
      refine VE.block_here ?_
      refine VE.then_wp ?_
      refine V.seq ?_
      refine V.region ?_
      refine VL.r (.inl rfl) rfl (by decide) (yr_move rfl rfl) ?_
      refine VL.r (.inl rfl) rfl (by decide) (yr_assign rfl rfl) ?_
      refine VL.r (.inl rfl) rfl (by decide) (yr_assign (u := .bool true) rfl rfl) ?_
      refine VL.nil ?_
      refine VE.then_wp ?_
      refine V.ret ?_
      refine ret2 rfl rfl rfl (by nofun) (by nofun) (fun w1 hw => ?_)
      obtain rfl : k = s.size := by omega
      exact ⟨rfl, hw.below⟩

theorem c_dec {w : World} {n : Nat} (hn : n ≤ 100000) : Pure Tryd.prog 41 [.int .i64 (n : Int)] w (.string (dec n)) := by
  refine Pure.enter Tryd.func41 rfl Tryd.ntmps41 (Nat.le_of_ble_eq_true rfl) ?_
  refine V.seq ?_
  refine V.region ?_
  refine VL.r (.inl rfl) rfl (by decide) (yr_assign rfl rfl) ?_
  refine VL.nil ?_
  refine VE.then_wp ?_
  refine V.seq ?_
  refine V.region ?_
  refine VL.new1 (.inl rfl) rfl (by decide) (yn_lit rfl Tryd.underlying34 elt5_Jr rfl (by decide) .nil (by first | (simp; done) | (simp [cn, cn1, cn0]; done)) rfl rfl rfl) ?_
  intro b6
  refine VL.r (.inl rfl) rfl (by decide) (yr_assign rfl rfl) ?_
  refine VL.nil ?_
  refine VE.then_wp ?_
  refine V.seq ?_
  refine V.region ?_
  refine VL.r (.inl rfl) rfl (by decide) (yr_move rfl rfl) ?_
  refine VL.r (.inl rfl) rfl (by decide) (yr_assign rfl rfl) ?_
  refine VL.nil ?_
  refine VE.then_wp ?_
  refine V.seq ?_
  refine V.block ?_
  refine V.loopc (G := Nat × (List Int) × Nat × (Option Addr) × Nat) [(0, _)] (fun ⟨v, t, z, ar, cr⟩ => DecI n v t ∧ t.length = z ∧ v ≤ n) (fun ⟨v, t, z, ar, cr⟩ => [⟨ar, bl t, cr * 1, 5⟩]) (fun ⟨v, t, z, ar, cr⟩ => [(3, .slice ar z cr), (4, .int .i64 (v : Int))]) (fun ⟨v, t, z, ar, cr⟩ => v + (1 - z)) (n, [], 0, some ⟨b6, 0, none⟩, 0) (.cons rfl .nil) (.cons rfl (.cons rfl .nil)) ?_ ?_ ?_
  · exact (fun w hw => hw)
  · exact (by exact ⟨decI_0 n, rfl, Nat.le_refl _⟩)
  rintro ⟨v, t, z, ar, cr⟩ ⟨hD, hz9, hv9⟩
  show V _ _ _ [⟨ar, bl t, cr * 1, 5⟩] ([(3, .slice ar z cr), (4, .int .i64 (v : Int))] ++ [(0, _)]) _ _
  refine V.seq ?_
  refine V.seq ?_
  refine V.region ?_
  refine VL.r (.inl rfl) rfl (by decide) (yr_move rfl rfl) ?_
  refine VL.r (.inl rfl) rfl (by decide) (yr_len rfl Tryd.underlying34 rfl) ?_
  refine VL.r (.inl rfl) rfl (by decide) (yr_icmp rfl (.inl rfl) rfl rfl) ?_
  refine VL.r (.inl rfl) rfl (by decide) (yr_move rfl rfl) ?_
  refine VX.split 11 _ rfl (fun h1 => ?_) (fun h1 => ?_)
  · skip
    replace h1 := ic_eql h1
    refine VL.no rfl rfl rfl rfl rfl (by decide) ?_
    refine VL.no rfl rfl rfl rfl rfl (by decide) ?_
    refine VL.r (.inl rfl) rfl (by decide) (yr_pick_t (u := .bool true) rfl rfl rfl) ?_
    refine VL.nil ?_
    refine VE.then_wp ?_
    refine V.condT rfl ?_
    refine V.skip ?_
    refine VE.then_wp ?_
    refine V.block ?_
    refine V.seq ?_
    refine V.region ?_
    refine VL.r (.inl rfl) rfl (by decide) (yr_move rfl rfl) ?_
    refine VL.r (.inl rfl) rfl (by decide) (yr_remN (v) 10 rfl rfl rfl rfl rfl (by omega)) ?_
    refine VL.r (.inl rfl) rfl (by decide) (yr_assign rfl rfl) ?_
    refine VL.nil ?_
    refine VE.then_wp ?_
    refine V.seq ?_
    refine V.seq ?_
    refine V.region ?_
    refine VL.r (.inl rfl) rfl (by decide) (yr_move rfl rfl) ?_
    refine VL.r (.inl rfl) rfl (by decide) (yr_icmp rfl (.inr (.inr (.inl rfl))) rfl rfl) ?_
    refine VL.nil ?_
    refine VE.then_wp ?_
    refine V.cond rfl (fun h3 => ?_) (fun h3 => ?_)
    · skip
      replace h3 := ic_lss h3
      exfalso; omega
    · skip
      replace h3 := ic_lss' h3
      refine V.skip ?_
      refine VE.then_wp ?_
      refine V.seq ?_
      refine V.region ?_
      refine VL.r (.inl rfl) rfl (by decide) (yr_move rfl rfl) ?_
      refine VL.r (.inl rfl) rfl (by decide) (yr_addN (48 + v % 10) rfl rfl rfl (by omega) (by omega)) ?_
      refine VL.r (.inl rfl) rfl (by decide) (yr_intConv rfl Tryd.underlying2 Tryd.underlying5 rfl (u8_nat (by omega))) ?_
      refine VL.new1 (.inl rfl) rfl (by decide) (yn_lit rfl Tryd.underlying34 elt5_Jr rfl (by decide) (.cons rfl .nil) (by first | (simp; done) | (simp [cn, cn1, cn0]; done)) rfl rfl rfl) ?_
      intro b24
      refine VL.r (.inl rfl) rfl (by decide) (yr_move rfl rfl) ?_
      refine VL.c (.inl rfl) rfl (by decide) (yc_appendz 1 rfl rfl Tryd.underlying34 elt5_Jr rfl rfl (by repeat (first | exact UpdF.here | apply UpdF.there | apply UpdF.thereS)) (by first | exact Sees.root (by assumption) | exact Sees.own (by repeat (first | exact List.mem_cons_self | exact List.mem_append_left _ (by assumption) | apply List.mem_cons_of_mem | apply List.mem_append_right)) | exact Sees.root (hR _ (by omega)) | exact Sees.own (RowsIn.mem (by repeat (first | exact RowsIn.here | exact RowsIn.last | apply RowsIn.there | apply RowsIn.thereS)) _ (by omega)) | exact Sees.own (WRowsIn.mem (by repeat (first | exact WRowsIn.here | exact WRowsIn.last | apply WRowsIn.there | apply WRowsIn.thereS)) _ (by omega))) rfl (by simp) (by rw [bl_length]; omega) (by first | rfl | exact bl_scal _) (by first | rfl | exact bl_scal _) (by have := decI_len hD; first | omega | (simp; omega)) (by have := decI_len hD; first | omega | (simp; omega))) ?_
      rintro ⟨a26, c26⟩
      refine VL.r (.inl rfl) rfl (by decide) (yr_assign rfl rfl) ?_
      refine VL.nil ?_
      refine VE.then_wp ?_
      refine V.region ?_
      refine VL.r (.inl rfl) rfl (by decide) (yr_move rfl rfl) ?_
      refine VL.r (.inl rfl) rfl (by decide) (yr_quoN (v) 10 rfl rfl rfl rfl rfl (by omega) (by omega)) ?_
      refine VL.r (.inl rfl) rfl (by decide) (yr_assign rfl rfl) ?_
      refine VL.nil ?_
      refine VE.block_normal ?_
      refine VE.round (v / 10, ((48 + v % 10 : Nat) : Int) :: t, z + 1, a26, c26) ?_ ?_ ?_ ?_ ?_
      · exact (.cons (congrArg (fun n => some (Value.slice _ n _)) (by omega)) (.cons rfl .nil))
      · exact (.cons rfl .nil)
      · exact (fun w hw => by dsimp only; exact hw.pick (by apply Pick.one; repeat (first | exact Rem.here | apply Rem.there)))
      · exact ⟨decI_step hD (by omega), by rw [List.length_cons, hz9], by omega⟩
      · (try dsimp only); omega
  · skip
    replace h1 := ic_eql' h1
    refine VL.r (.inr ⟨_, _, _, rfl, rfl, rfl⟩) rfl (by decide) (yr_move rfl rfl) ?_
    refine VL.r (.inr ⟨_, _, _, rfl, rfl, rfl⟩) rfl (by decide) (yr_icmp rfl (.inr (.inl rfl)) rfl rfl) ?_
    refine VL.r (.inl rfl) rfl (by decide) (yr_pick_f rfl rfl rfl) ?_
    refine VL.nil ?_
    refine VE.then_wp ?_
    refine V.cond rfl (fun h4 => ?_) (fun h4 => ?_)
    · skip
      replace h4 := ic_neq h4
      refine V.skip ?_
      refine VE.then_wp ?_
      refine V.block ?_
      refine V.seq ?_
      refine V.region ?_
      refine VL.r (.inl rfl) rfl (by decide) (yr_move rfl rfl) ?_
      refine VL.r (.inl rfl) rfl (by decide) (yr_remN (v) 10 rfl rfl rfl rfl rfl (by omega)) ?_
      refine VL.r (.inl rfl) rfl (by decide) (yr_assign rfl rfl) ?_
      refine VL.nil ?_
      refine VE.then_wp ?_
      refine V.seq ?_
      refine V.seq ?_
      refine V.region ?_
      refine VL.r (.inl rfl) rfl (by decide) (yr_move rfl rfl) ?_
      refine VL.r (.inl rfl) rfl (by decide) (yr_icmp rfl (.inr (.inr (.inl rfl))) rfl rfl) ?_
      refine VL.nil ?_
      refine VE.then_wp ?_
      refine V.cond rfl (fun h5 => ?_) (fun h5 => ?_)
      · skip
        replace h5 := ic_lss h5
        exfalso; omega
      · skip
        replace h5 := ic_lss' h5
        refine V.skip ?_
        refine VE.then_wp ?_
        refine V.seq ?_
        refine V.region ?_
        refine VL.r (.inl rfl) rfl (by decide) (yr_move rfl rfl) ?_
        refine VL.r (.inl rfl) rfl (by decide) (yr_addN (48 + v % 10) rfl rfl rfl (by omega) (by omega)) ?_
        refine VL.r (.inl rfl) rfl (by decide) (yr_intConv rfl Tryd.underlying2 Tryd.underlying5 rfl (u8_nat (by omega))) ?_
        refine VL.new1 (.inl rfl) rfl (by decide) (yn_lit rfl Tryd.underlying34 elt5_Jr rfl (by decide) (.cons rfl .nil) (by first | (simp; done) | (simp [cn, cn1, cn0]; done)) rfl rfl rfl) ?_
        intro b24
        refine VL.r (.inl rfl) rfl (by decide) (yr_move rfl rfl) ?_
        refine VL.c (.inl rfl) rfl (by decide) (yc_appendz 1 rfl rfl Tryd.underlying34 elt5_Jr rfl rfl (by repeat (first | exact UpdF.here | apply UpdF.there | apply UpdF.thereS)) (by first | exact Sees.root (by assumption) | exact Sees.own (by repeat (first | exact List.mem_cons_self | exact List.mem_append_left _ (by assumption) | apply List.mem_cons_of_mem | apply List.mem_append_right)) | exact Sees.root (hR _ (by omega)) | exact Sees.own (RowsIn.mem (by repeat (first | exact RowsIn.here | exact RowsIn.last | apply RowsIn.there | apply RowsIn.thereS)) _ (by omega)) | exact Sees.own (WRowsIn.mem (by repeat (first | exact WRowsIn.here | exact WRowsIn.last | apply WRowsIn.there | apply WRowsIn.thereS)) _ (by omega))) rfl (by simp) (by rw [bl_length]; omega) (by first | rfl | exact bl_scal _) (by first | rfl | exact bl_scal _) (by have := decI_len hD; first | omega | (simp; omega)) (by have := decI_len hD; first | omega | (simp; omega))) ?_
        rintro ⟨a26, c26⟩
        refine VL.r (.inl rfl) rfl (by decide) (yr_assign rfl rfl) ?_
        refine VL.nil ?_
        refine VE.then_wp ?_
        refine V.region ?_
        refine VL.r (.inl rfl) rfl (by decide) (yr_move rfl rfl) ?_
        refine VL.r (.inl rfl) rfl (by decide) (yr_quoN (v) 10 rfl rfl rfl rfl rfl (by omega) (by omega)) ?_
        refine VL.r (.inl rfl) rfl (by decide) (yr_assign rfl rfl) ?_
        refine VL.nil ?_
        refine VE.block_normal ?_
        refine VE.round (v / 10, ((48 + v % 10 : Nat) : Int) :: t, z + 1, a26, c26) ?_ ?_ ?_ ?_ ?_
        · exact (.cons (congrArg (fun n => some (Value.slice _ n _)) (by omega)) (.cons rfl .nil))
        · exact (.cons rfl .nil)
        · exact (fun w hw => by dsimp only; exact hw.pick (by apply Pick.one; repeat (first | exact Rem.here | apply Rem.there)))
        · exact ⟨decI_step hD (by omega), by rw [List.length_cons, hz9], by omega⟩
        · (try dsimp only); omega
    · skip
      replace h4 := ic_neq' h4
      refine V.exit ?_
      refine VE.then_exit ?_
      refine VE.then_exit ?_
      refine VE.block_here ?_
      refine VE.then_wp ?_
      refine V.seq ?_
      refine V.seq ?_
      refine V.region ?_
      refine VL.r (.inl rfl) rfl (by decide) (yr_move rfl rfl) ?_
      refine VL.r (.inl rfl) rfl (by decide) (yr_icmp rfl (.inr (.inr (.inl rfl))) rfl rfl) ?_
      refine VL.nil ?_
      refine VE.then_wp ?_
      refine V.cond rfl (fun h6 => ?_) (fun h6 => ?_)
      · skip
        replace h6 := ic_lss h6
        exfalso; omega
      · skip
        replace h6 := ic_lss' h6
        refine V.skip ?_
        refine VE.then_wp ?_
        refine V.seq ?_
        refine V.region ?_
        refine VL.r (.inl rfl) rfl (by decide) (yr_move rfl rfl) ?_
        refine VL.q (.inl rfl) rfl (by decide) (yq_bts (bs := t) rfl Tryd.underlying34 Tryd.underlying5 Tryd.underlying9 rfl (by first | exact Sees.root (by assumption) | exact Sees.own (by repeat (first | exact List.mem_cons_self | exact List.mem_append_left _ (by assumption) | apply List.mem_cons_of_mem | apply List.mem_append_right)) | exact Sees.root (hR _ (by omega)) | exact Sees.own (RowsIn.mem (by repeat (first | exact RowsIn.here | exact RowsIn.last | apply RowsIn.there | apply RowsIn.thereS)) _ (by omega)) | exact Sees.own (WRowsIn.mem (by repeat (first | exact WRowsIn.here | exact WRowsIn.last | apply WRowsIn.there | apply WRowsIn.thereS)) _ (by omega))) (by omega)) ?_
        refine VL.r (.inl rfl) rfl (by decide) (yr_assign rfl rfl) ?_
        refine VL.nil ?_
        refine VE.then_wp ?_
        refine V.ret ?_
        refine ret1 rfl rfl (fun w1 hw => ?_)
        obtain rfl : v = 0 := by omega
        exact ⟨by rw [decI_end hD (by omega)]; rfl, hw.below⟩

theorem c_fmtInt {w : World} {n : Nat} (hT : Go.Lib.TabIs Tryd.prog w "internal/strconv.uint64pow10" .u64 Go.Lib.pow10Tab) (hn : n ≤ 9223372036854775807) : Pure Tryd.prog 45 [.int .i64 (n : Int), .int .i64 10] w (.string (dec n)) := by
  intro vs hv
  obtain rfl := int_args2 hv
  refine (Tryd.strconv_FormatInt_10 (n : Int) (by omega) (by omega) w hT).mono ?_
  rintro e w' ⟨rfl, k, os, rfl⟩
  exact ⟨_, rfl, by rw [itoa_dec]; rfl, Go.Lib.below_grow _ _ (Nat.le_refl _) _ _⟩
theorem c_ixB {w : World} {s : ByteArray} : Pure Tryd.prog 46 [.string s, .int .u8 10] w (.int .i64 (Go.Lib.indexByte s.data.toList 10)) := by
  intro vs hv
  obtain rfl := str_int2 hv
  refine (Tryd.strings_IndexByte s 10 w).mono ?_
  rintro e w' ⟨rfl, rfl⟩
  exact ⟨_, rfl, rfl, Below.refl _ _⟩
theorem c_cutT {w : World} {s : ByteArray} {m : Int} (hM : Cl w (some ⟨0, 0, none⟩) [.int .i64 m]) (hs : s.size < 4294967281) : Pure Tryd.prog 47 [.string s, .string ⟨#[32]⟩] w (.tuple #[.string (numT s), .string (txt s), .bool (fnd s)]) := by
  intro vs hv
  obtain rfl := str_args2 hv
  refine (Tryd.strings_Cut s ⟨#[32]⟩ m w hs hM.int0).mono ?_
  rintro e w' ⟨rfl, n, rfl⟩
  exact ⟨_, rfl, cut_tup s, drewN_below _ _⟩
theorem c_decimal {w : World} {n : Nat} (hT : Go.Lib.TabIs Tryd.prog w "internal/strconv.uint64pow10" .u64 Go.Lib.pow10Tab) (hn : n ≤ 100000) : Pure Tryd.prog 28 [.int .i64 (n : Int)] w (.string (dec n)) := by
  refine Pure.enter Tryd.func28 rfl Tryd.ntmps28 (Nat.le_of_ble_eq_true rfl) ?_
  refine V.seq ?_
  refine V.region ?_
  refine VL.r (.inl rfl) rfl (by decide) (yr_assign rfl rfl) ?_
  refine VL.nil ?_
  refine VE.then_wp ?_
  refine V.seq ?_
  refine V.region ?_
  refine VL.r (.inl rfl) rfl (by decide) (yr_move rfl rfl) ?_
  refine VL.q (.inl rfl) rfl (by decide) (yq_callf rfl known45_Jr (.cons rfl (.cons rfl .nil)) (fun w hw => (c_fmtInt (tab_keep hT hw.below) (by omega)))) ?_
  refine VL.r (.inl rfl) rfl (by decide) (yr_assign rfl rfl) ?_
  refine VL.nil ?_
  refine VE.then_wp ?_
  refine V.ret ?_
  refine ret1 rfl rfl (fun w1 hw => ?_)
  exact ⟨rfl, hw.below⟩

theorem c_recovered {w : World} {s : ByteArray} {m : Int} (hM : Cl w (some ⟨0, 0, none⟩) [.int .i64 m]) (hT : Go.Lib.TabIs Tryd.prog w "internal/strconv.uint64pow10" .u64 Go.Lib.pow10Tab) (hs : s.size ≤ 12000) : New Tryd.prog 32 [.string s] w (fun p : Option Addr × Nat => .tuple #[.slice p.1 (recO s).length p.2, .int .i64 ((recN s : Nat) : Int)]) (fun p => [⟨p.1, sx (recO s), p.2 * 1, 9⟩]) := by
  refine New.enter Tryd.func32 rfl Tryd.ntmps32 (Nat.le_of_ble_eq_true rfl) ?_
  refine V.seq ?_
  refine V.region ?_
  refine VL.r (.inl rfl) rfl (by decide) (yr_assign (u := .slice none 0 0) rfl rfl) ?_
  refine VL.r (.inl rfl) rfl (by decide) (yr_assign (u := .int .i64 0) rfl rfl) ?_
  refine VL.nil ?_
  refine VE.then_wp ?_
  refine V.seq ?_
  refine V.region ?_
  refine VL.new1 (.inl rfl) rfl (by decide) (yn_lit rfl Tryd.underlying25 elt9_Jr rfl (by decide) .nil (by first | (simp; done) | (simp [cn, cn1, cn0]; done)) rfl rfl rfl) ?_
  intro b13
  refine VL.r (.inl rfl) rfl (by decide) (yr_assign rfl rfl) ?_
  refine VL.nil ?_
  refine VE.then_wp ?_
  refine V.seq ?_
  refine V.region ?_
  refine VL.r (.inl rfl) rfl (by decide) (yr_assign (u := .int .i64 0) rfl rfl) ?_
  refine VL.nil ?_
  refine VE.then_wp ?_
  refine V.seq ?_
  refine V.region ?_
  refine VL.r (.inl rfl) rfl (by decide) (yr_assign (u := .int .i64 0) rfl rfl) ?_
  refine VL.nil ?_
  refine VE.then_wp ?_
  refine V.block ?_
  refine V.loopc (G := Nat × Nat × (List ByteArray) × (Option Addr) × Nat) [(0, _)] (fun ⟨b, c, out, ar, cr⟩ => GoB s b c out ∧ b ≤ s.size ∧ c < 65003 ∧ out.length ≤ b) (fun ⟨b, c, out, ar, cr⟩ => [⟨ar, sx out, cr * 1, 9⟩]) (fun ⟨b, c, out, ar, cr⟩ => [(4, .slice ar out.length cr), (5, .int .i64 (c : Int)), (6, .int .i64 (b : Int))]) (fun ⟨b, c, out, ar, cr⟩ => s.size + 1 - b) (0, 0, [], some ⟨b13, 0, none⟩, 0) (.cons rfl .nil) (.cons rfl (.cons rfl (.cons rfl .nil))) ?_ ?_ ?_
  · exact (fun w hw => hw)
  · exact (by exact ⟨goB_0 s, Nat.zero_le _, by decide, Nat.le_refl _⟩)
  rintro ⟨b, c, out, ar, cr⟩ ⟨hG, hb9, hc9, ho9⟩
  show V _ _ _ [⟨ar, sx out, cr * 1, 9⟩] ([(4, .slice ar out.length cr), (5, .int .i64 (c : Int)), (6, .int .i64 (b : Int))] ++ [(0, _)]) _ _
  refine V.block ?_
  refine V.seq ?_
  refine V.region ?_
  refine VL.r (.inl rfl) rfl (by decide) (yr_move rfl rfl) ?_
  refine VL.r (.inl rfl) rfl (by decide) (yr_move rfl rfl) ?_
  refine VL.r (.inl rfl) rfl (by decide) (yr_strPart (l := b) (h := s.size) rfl Tryd.underlying9 rfl (OptI.at rfl rfl) OptI.no (by omega) (by omega)) ?_
  refine VL.q (.inl rfl) rfl (by decide) (yq_callf rfl known46_Jr (.cons rfl (.cons rfl .nil)) (fun w hw => c_ixB)) ?_
  refine VL.r (.inl rfl) rfl (by decide) (yr_assign rfl rfl) ?_
  refine VL.nil ?_
  refine VE.then_wp ?_
  refine V.seq ?_
  refine V.seq ?_
  refine V.region ?_
  refine VL.r (.inl rfl) rfl (by decide) (yr_move rfl rfl) ?_
  refine VL.r (.inl rfl) rfl (by decide) (yr_icmp rfl (.inr (.inr (.inl rfl))) rfl rfl) ?_
  refine VL.nil ?_
  refine VE.then_wp ?_
  refine V.cond rfl (fun h1 => ?_) (fun h1 => ?_)
  · skip
    replace h1 := ic_lss h1
    refine V.seq ?_
    refine V.region ?_
    refine VL.r (.inl rfl) rfl (by decide) (yr_move rfl rfl) ?_
    refine VL.r (.inl rfl) rfl (by decide) (yr_move rfl rfl) ?_
    refine VL.r (.inl rfl) rfl (by decide) (yr_assign rfl rfl) ?_
    refine VL.r (.inl rfl) rfl (by decide) (yr_assign rfl rfl) ?_
    refine VL.nil ?_
    refine VE.then_wp ?_
    refine V.ret ?_
    refine VE.then_ret ?_
    refine VE.block_ret ?_
    refine VE.then_ret ?_
    refine VE.block_ret ?_
    refine ret2 rfl rfl rfl (by nofun) (by nofun) (fun w1 hw => ?_)
    obtain ⟨e1, e2⟩ := goB_end hG (by assumption)
    exact ⟨(ar, cr), by first | (rw [← e1, ← e2]; done) | (rw [← e1, ← e2]; rfl), by rw [← e1]; exact hw.out1⟩
  · skip
    replace h1 := ic_lss' h1
    obtain ⟨i, hi⟩ : ∃ i : Nat, Go.Lib.indexByte (s.extract b s.size).data.toList 10 = i := ⟨_, (Int.toNat_of_nonneg (by omega)).symm⟩
    obtain ⟨hb1, -⟩ := goB_cut hb9 hi
    have hL : (s.extract b (b + i)).size = i := by rw [extract_size (by omega)]; omega
    have hT9 := txt_size (s.extract b (b + i))
    have hck := chk_lt (s := txt (s.extract b (b + i))) hc9
    refine V.skip ?_
    refine VE.then_wp ?_
    refine V.seq ?_
    refine V.region ?_
    refine VL.r (.inl rfl) rfl (by decide) (yr_move rfl rfl) ?_
    refine VL.r (.inl rfl) rfl (by decide) (yr_move rfl rfl) ?_
    refine VL.r (.inl rfl) rfl (by decide) (yr_move rfl rfl) ?_
    refine VL.r (.inl rfl) rfl (by decide) (yr_move rfl rfl) ?_
    refine VL.r (.inl rfl) rfl (by decide) (yr_addN (b + i) rfl rfl rfl (by rw [hi]; omega) (by omega)) ?_
    refine VL.r (.inl rfl) rfl (by decide) (yr_strPart (l := b) (h := b + i) rfl Tryd.underlying9 rfl (OptI.at rfl rfl) (OptI.at rfl rfl) (by omega) (by omega)) ?_
    refine VL.q (.inl rfl) rfl (by decide) (yq_callf rfl known47_Jr (.cons rfl (.cons rfl .nil)) (fun w hw => (c_cutT (by first | exact Sees.root (by assumption) w hw | exact Sees.own (by repeat (first | exact List.mem_cons_self | exact List.mem_append_left _ (by assumption) | apply List.mem_cons_of_mem | apply List.mem_append_right)) w hw) (by omega)))) ?_
    refine VL.r (.inl rfl) rfl (by decide) (yr_move rfl rfl) ?_
    refine VL.r (.inl rfl) rfl (by decide) (yr_extract rfl rfl rfl (by nofun)) ?_
    refine VL.r (.inl rfl) rfl (by decide) (yr_extract rfl rfl rfl (by nofun)) ?_
    refine VL.r (.inl rfl) rfl (by decide) (yr_extract rfl rfl rfl (by nofun)) ?_
    refine VL.r (.inl rfl) rfl (by decide) (yr_assign rfl rfl) ?_
    refine VL.r (.inl rfl) rfl (by decide) (yr_assign rfl rfl) ?_
    refine VL.r (.inl rfl) rfl (by decide) (yr_assign rfl rfl) ?_
    refine VL.nil ?_
    refine VE.then_wp ?_
    refine V.seq ?_
    refine V.region ?_
    refine VL.r (.inl rfl) rfl (by decide) (yr_move rfl rfl) ?_
    refine VL.r (.inl rfl) rfl (by decide) (yr_move rfl rfl) ?_
    refine VL.q (.inl rfl) rfl (by decide) (yq_callf rfl known26_Jr (.cons rfl (.cons rfl .nil)) (fun w hw => (c_checkOf (by omega) (by omega)))) ?_
    refine VL.r (.inl rfl) rfl (by decide) (yr_move rfl rfl) ?_
    refine VL.r (.inl rfl) rfl (by decide) (yr_extract rfl rfl rfl (by nofun)) ?_
    refine VL.r (.inl rfl) rfl (by decide) (yr_extract rfl rfl rfl (by nofun)) ?_
    refine VL.r (.inl rfl) rfl (by decide) (yr_assign rfl rfl) ?_
    refine VL.r (.inl rfl) rfl (by decide) (yr_assign rfl rfl) ?_
    refine VL.nil ?_
    refine VE.then_wp ?_
    refine V.seq ?_
    refine V.seq ?_
    refine V.region ?_
    refine VL.r (.inl rfl) rfl (by decide) (yr_move rfl rfl) ?_
    refine VL.r (.inl rfl) rfl (by decide) (yr_not rfl rfl) ?_
    refine VL.r (.inl rfl) rfl (by decide) (yr_move rfl rfl) ?_
    refine VX.split 41 _ rfl (fun h2 => ?_) (fun h2 => ?_)
    · skip
      replace h2 := bnot_t h2
      refine VL.no rfl rfl rfl rfl rfl (by decide) ?_
      refine VL.no rfl rfl rfl rfl rfl (by decide) ?_
      refine VL.no rfl rfl rfl rfl rfl (by decide) ?_
      refine VL.no rfl rfl rfl rfl rfl (by decide) ?_
      refine VL.r (.inl rfl) rfl (by decide) (yr_pick_t (u := .bool true) rfl rfl rfl) ?_
      refine VL.nil ?_
      refine VE.then_wp ?_
      refine V.condT rfl ?_
      refine V.seq ?_
      refine V.region ?_
      refine VL.r (.inl rfl) rfl (by decide) (yr_move rfl rfl) ?_
      refine VL.r (.inl rfl) rfl (by decide) (yr_move rfl rfl) ?_
      refine VL.r (.inl rfl) rfl (by decide) (yr_assign rfl rfl) ?_
      refine VL.r (.inl rfl) rfl (by decide) (yr_assign rfl rfl) ?_
      refine VL.nil ?_
      refine VE.then_wp ?_
      refine V.ret ?_
      refine VE.then_ret ?_
      refine VE.block_ret ?_
      refine VE.then_ret ?_
      refine VE.block_ret ?_
      refine ret2 rfl rfl rfl (by nofun) (by nofun) (fun w1 hw => ?_)
      obtain ⟨e1, e2⟩ := goB_bad hG hb9 hi (good_n1 (by assumption))
      exact ⟨(ar, cr), by first | (rw [← e1, ← e2]; done) | (rw [← e1, ← e2]; rfl), by rw [← e1]; exact hw.out1⟩
    · skip
      replace h2 := bnot_f h2
      refine VL.r (.inr ⟨_, _, _, rfl, rfl, rfl⟩) rfl (by decide) (yr_move rfl rfl) ?_
      refine VL.r (.inr ⟨_, _, _, rfl, rfl, rfl⟩) rfl (by decide) (yr_move rfl rfl) ?_
      refine VL.q (.inr ⟨_, _, _, rfl, rfl, rfl⟩) rfl (by decide) (yq_callf rfl known28_Jr (.cons rfl .nil) (fun w hw => (c_decimal (tab_keep hT hw.below) (by omega)))) ?_
      refine VL.r (.inr ⟨_, _, _, rfl, rfl, rfl⟩) rfl (by decide) (yr_scmp rfl rfl rfl (.inr rfl)) ?_
      refine VL.r (.inl rfl) rfl (by decide) (yr_pick_f rfl rfl rfl) ?_
      refine VL.nil ?_
      refine VE.then_wp ?_
      refine V.cond rfl (fun h4 => ?_) (fun h4 => ?_)
      · skip
        refine V.seq ?_
        refine V.region ?_
        refine VL.r (.inl rfl) rfl (by decide) (yr_move rfl rfl) ?_
        refine VL.r (.inl rfl) rfl (by decide) (yr_move rfl rfl) ?_
        refine VL.r (.inl rfl) rfl (by decide) (yr_assign rfl rfl) ?_
        refine VL.r (.inl rfl) rfl (by decide) (yr_assign rfl rfl) ?_
        refine VL.nil ?_
        refine VE.then_wp ?_
        refine V.ret ?_
        refine VE.then_ret ?_
        refine VE.block_ret ?_
        refine VE.then_ret ?_
        refine VE.block_ret ?_
        refine ret2 rfl rfl rfl (by nofun) (by nofun) (fun w1 hw => ?_)
        obtain ⟨e1, e2⟩ := goB_bad hG hb9 hi (good_n2 (by assumption))
        exact ⟨(ar, cr), by first | (rw [← e1, ← e2]; done) | (rw [← e1, ← e2]; rfl), by rw [← e1]; exact hw.out1⟩
      · skip
        refine V.skip ?_
        refine VE.then_wp ?_
        refine V.seq ?_
        refine V.region ?_
        refine VL.r (.inl rfl) rfl (by decide) (yr_move rfl rfl) ?_
        refine VL.r (.inl rfl) rfl (by decide) (yr_move rfl rfl) ?_
        refine VL.new1 (.inl rfl) rfl (by decide) (yn_lit rfl Tryd.underlying25 elt9_Jr rfl (by decide) (.cons rfl .nil) (by first | (simp; done) | (simp [cn, cn1, cn0]; done)) rfl rfl rfl) ?_
        intro b51
        refine VL.c (.inl rfl) rfl (by decide) (yc_appendz 1 rfl rfl Tryd.underlying25 elt9_Jr rfl rfl (by repeat (first | exact UpdF.here | apply UpdF.there | apply UpdF.thereS)) (by first | exact Sees.root (by assumption) | exact Sees.own (by repeat (first | exact List.mem_cons_self | exact List.mem_append_left _ (by assumption) | apply List.mem_cons_of_mem | apply List.mem_append_right)) | exact Sees.root (hR _ (by omega)) | exact Sees.own (RowsIn.mem (by repeat (first | exact RowsIn.here | exact RowsIn.last | apply RowsIn.there | apply RowsIn.thereS)) _ (by omega)) | exact Sees.own (WRowsIn.mem (by repeat (first | exact WRowsIn.here | exact WRowsIn.last | apply WRowsIn.there | apply WRowsIn.thereS)) _ (by omega))) rfl (by rw [sx_length, Nat.mul_one]) rfl (by first | rfl | exact sx_scal _) rfl (by omega) (by omega)) ?_
        rintro ⟨a52, c52⟩
        refine VL.r (.inl rfl) rfl (by decide) (yr_assign rfl rfl) ?_
        refine VL.nil ?_
        refine VE.then_wp ?_
        refine V.seq ?_
        refine V.region ?_
        refine VL.r (.inl rfl) rfl (by decide) (yr_move rfl rfl) ?_
        refine VL.r (.inl rfl) rfl (by decide) (yr_assign rfl rfl) ?_
        refine VL.nil ?_
        refine VE.then_wp ?_
        refine V.region ?_
        refine VL.r (.inl rfl) rfl (by decide) (yr_move rfl rfl) ?_
        refine VL.r (.inl rfl) rfl (by decide) (yr_move rfl rfl) ?_
        refine VL.r (.inl rfl) rfl (by decide) (yr_addN (i + 1) rfl rfl rfl (by rw [hi]; omega) (by omega)) ?_
        refine VL.r (.inl rfl) rfl (by decide) (yr_addN (b + i + 1) rfl rfl rfl (by omega) (by omega)) ?_
        refine VL.r (.inl rfl) rfl (by decide) (yr_assign rfl rfl) ?_
        refine VL.nil ?_
        refine VE.block_normal ?_
        refine VE.round (b + i + 1, chk c (txt (s.extract b (b + i))), out ++ [txt (s.extract b (b + i))], a52, c52) ?_ ?_ ?_ ?_ ?_
        · exact (.cons (congrArg (fun n => some (Value.slice _ n _)) (by first | rfl | (rw [List.length_append]; rfl))) (.cons rfl (.cons rfl .nil)))
        · exact (.cons rfl .nil)
        · exact (fun w hw => by dsimp only; rw [← sx_snoc]; exact hw.pick (by apply Pick.one; repeat (first | exact Rem.here | apply Rem.there)))
        · exact ⟨goB_step hG hb9 hi (good_y (by assumption) (by assumption)), by omega, chk_lt hc9, by rw [List.length_append, List.length_singleton]; omega⟩
        · (try dsimp only); omega

theorem c_implRj {w : World} {s : ByteArray} {m : Int} (hM : Cl w (some ⟨0, 0, none⟩) [.int .i64 m]) (hT : Go.Lib.TabIs Tryd.prog w "internal/strconv.uint64pow10" .u64 Go.Lib.pow10Tab) : New Tryd.prog 15 [.string s] w (fun p : Option Addr × Nat => .tuple #[.slice p.1 (rO s).length p.2, .int .i64 ((rN s : Nat) : Int), .bool (rB s)]) (fun p => [⟨p.1, sx (rO s), p.2 * 1, 9⟩]) := by
  refine New.enter Tryd.func15 rfl Tryd.ntmps15 (Nat.le_of_ble_eq_true rfl) ?_
  refine V.seq ?_
  refine V.region ?_
  refine VL.r (.inl rfl) rfl (by decide) (yr_assign (u := .slice none 0 0) rfl rfl) ?_
  refine VL.r (.inl rfl) rfl (by decide) (yr_assign (u := .int .i64 0) rfl rfl) ?_
  refine VL.r (.inl rfl) rfl (by decide) (yr_assign (u := .bool false) rfl rfl) ?_
  refine VL.nil ?_
  refine VE.then_wp ?_
  refine V.seq ?_
  refine V.seq ?_
  refine V.region ?_
  refine VL.r (.inl rfl) rfl (by decide) (yr_move rfl rfl) ?_
  refine VL.r (.inl rfl) rfl (by decide) (yr_lenString rfl Tryd.underlying9 rfl) ?_
  refine VL.r (.inl rfl) rfl (by decide) (yr_icmp rfl (.inr (.inr (.inr (.inr (.inl rfl))))) rfl rfl) ?_
  refine VL.nil ?_
  refine VE.then_wp ?_
  refine V.cond rfl (fun h1 => ?_) (fun h1 => ?_)
  · skip
    replace h1 := ic_gtr h1
    refine V.seq ?_
    refine V.region ?_
    refine VL.r (.inl rfl) rfl (by decide) (yr_assign (u := .slice none 0 0) rfl rfl) ?_
    refine VL.r (.inl rfl) rfl (by decide) (yr_assign (u := .int .i64 0) rfl rfl) ?_
    refine VL.r (.inl rfl) rfl (by decide) (yr_assign (u := .bool false) rfl rfl) ?_
    refine VL.nil ?_
    refine VE.then_wp ?_
    refine V.ret ?_
    refine VE.then_ret ?_
    refine ret3 rfl rfl rfl rfl (by nofun) (by nofun) (by nofun) (fun w1 hw => ?_)
    obtain ⟨e1, e2, e3⟩ := r_no (s := s) (by omega)
    exact ⟨(none, 0), by first | (rw [e1, e2, e3]; done) | (rw [e1, e2, e3]; rfl), by rw [e1]; exact (hw.nilJ 9).out1⟩
  · skip
    replace h1 := ic_gtr' h1
    refine V.skip ?_
    refine VE.then_wp ?_
    refine V.seq ?_
    refine V.region ?_
    refine VL.r (.inl rfl) rfl (by decide) (yr_move rfl rfl) ?_
    refine VL.new1 (.inl rfl) rfl (by decide) (yn_callf rfl known32_Jr (.cons rfl .nil) (fun w hw => (c_recovered (by first | exact Sees.root (by assumption) w hw | exact Sees.own (by repeat (first | exact List.mem_cons_self | exact List.mem_append_left _ (by assumption) | apply List.mem_cons_of_mem | apply List.mem_append_right)) w hw) (tab_keep hT hw.below) (by omega)))) ?_
    rintro ⟨a12, c12⟩
    refine VL.r (.inl rfl) rfl (by decide) (yr_move rfl rfl) ?_
    refine VL.r (.inl rfl) rfl (by decide) (yr_extract rfl rfl rfl (by nofun)) ?_
    refine VL.r (.inl rfl) rfl (by decide) (yr_extract rfl rfl rfl (by nofun)) ?_
    refine VL.r (.inl rfl) rfl (by decide) (yr_assign rfl rfl) ?_
    refine VL.r (.inl rfl) rfl (by decide) (yr_assign rfl rfl) ?_
    refine VL.nil ?_
    refine VE.then_wp ?_
    refine V.seq ?_
    refine V.region ?_
    refine VL.r (.inl rfl) rfl (by decide) (yr_move rfl rfl) ?_
    refine VL.r (.inl rfl) rfl (by decide) (yr_move rfl rfl) ?_
    refine VL.r (.inl rfl) rfl (by decide) (yr_assign rfl rfl) ?_
    refine VL.r (.inl rfl) rfl (by decide) (yr_assign rfl rfl) ?_
    refine VL.r (.inl rfl) rfl (by decide) (yr_assign (u := .bool true) rfl rfl) ?_
    refine VL.nil ?_
    refine VE.then_wp ?_
    refine V.ret ?_
    refine ret3 rfl rfl rfl rfl (by nofun) (by nofun) (by nofun) (fun w1 hw => ?_)
    obtain ⟨e1, e2, e3⟩ := r_yes (s := s) (by omega)
    exact ⟨(a12, c12), by first | (rw [e1, e2, e3]; done) | (rw [e1, e2, e3]; rfl), by rw [e1]; exact hw.out1⟩

end Go.Proofs.YtmecikeaogjmpaaDoor


namespace Go.Proofs.YtmecikeaogjmpaaDoor
open Go.RowKit
set_option linter.unusedVariables false
set_option linter.unusedSimpArgs false
set_option maxRecDepth 20000

theorem ext86_Dt : ExtF Tryd.prog 86 Extern.MathFloatBits.float32bits := ⟨_, Tryd.func86, by kernel_rfl, by kernel_rfl, by kernel_rfl, by kernel_rfl⟩
theorem known71_Dt : Known Tryd.prog 71 := Known.mk' Tryd.func71 (by kernel_rfl)
theorem elt5_Dt : Elt Tryd.prog 5 [Value.int .u8 0] 1 := Elt.mk' (by kernel_rfl) (by decide)
theorem sz90_Dt : (Tryd.prog.info? 90).map (·.size) = some 1 := by kernel_rfl
theorem fb90_Dt : flatB Tryd.prog 90 = true := by kernel_rfl
theorem known49_Dt : Known Tryd.prog 49 := Known.mk' Tryd.func49 (by kernel_rfl)
theorem elt90_Dt : Elt Tryd.prog 90 [Value.float .f32 0] 4 := Elt.mk' (by kernel_rfl) (by decide)
theorem known64_Dt : Known Tryd.prog 64 := Known.mk' Tryd.func64 (by kernel_rfl)
theorem sz91_Dt : (Tryd.prog.info? 91).map (·.size) = some 1 := by kernel_rfl
theorem fb91_Dt : flatB Tryd.prog 91 = true := by kernel_rfl
theorem sz101_Dt : (Tryd.prog.info? 101).map (·.size) = some 3 := by kernel_rfl
theorem known55_Dt : Known Tryd.prog 55 := Known.mk' Tryd.func55 (by kernel_rfl)
theorem sz4_Dt : (Tryd.prog.info? 4).map (·.size) = some 1 := by kernel_rfl
theorem fb4_Dt : flatB Tryd.prog 4 = true := by kernel_rfl
theorem mixed_Dt : Tryd.prog.follows .mixedOrders = true := by kernel_rfl
theorem sz104_Dt : (Tryd.prog.info? 104).map (·.size) = some 4 := by kernel_rfl
theorem sz39_Dt : (Tryd.prog.info? 39).map (·.size) = some 1 := by kernel_rfl
theorem fb39_Dt : flatB Tryd.prog 39 = true := by kernel_rfl
theorem sz110_Dt : (Tryd.prog.info? 110).map (·.size) = some 1 := by kernel_rfl
theorem fb110_Dt : flatB Tryd.prog 110 = true := by kernel_rfl
attribute [local irreducible] fop fcmp fconv fneg fabs List.getD qw hqw w2w g2w uw sb stb dec

theorem c_bits {w : World} {x : Nat} : New Tryd.prog 71 [.float .f32 x] w (fun z : Int => .int .i64 z) (fun _ => []) := by
  refine New.enter Tryd.func71 rfl Tryd.ntmps71 (Nat.le_of_ble_eq_true rfl) ?_
  refine V.seq ?_
  refine V.region ?_
  refine VL.r (.inl rfl) rfl (by decide) (yr_assign (u := .int .i64 0) rfl rfl) ?_
  refine VL.nil ?_
  refine VE.then_wp ?_
  refine V.seq ?_
  refine V.seq ?_
  refine V.region ?_
  refine VL.r (.inl rfl) rfl (by decide) (yr_move rfl rfl) ?_
  refine VL.r (.inl rfl) rfl (by decide) (yr_move rfl rfl) ?_
  refine VL.r (.inl rfl) rfl (by decide) (yr_fcmp rfl (.inr (.inl rfl)) rfl rfl) ?_
  refine VL.nil ?_
  refine VE.then_wp ?_
  refine V.cond rfl (fun h1 => ?_) (fun h1 => ?_)
  · skip
    refine V.seq ?_
    refine V.region ?_
    refine VL.r (.inl rfl) rfl (by decide) (yr_assign (u := .int .i64 2143289344) rfl rfl) ?_
    refine VL.nil ?_
    refine VE.then_wp ?_
    refine V.ret ?_
    refine VE.then_ret ?_
    refine ret1 rfl rfl (fun w1 hw => ?_)
    exact ⟨_, rfl, hw.below, (fun _ h => by cases h), List.Pairwise.nil⟩
  · skip
    have hnn : fnan .f32 x = false := by rwa [fne_self] at h1
    refine V.skip ?_
    refine VE.then_wp ?_
    refine V.seq ?_
    refine V.region ?_
    refine VL.r (.inl rfl) rfl (by decide) (yr_move rfl rfl) ?_
    refine VL.q (.inl rfl) rfl (by decide) (yq_ext rfl ext86_Dt (.cons rfl .nil) (fun vs w h => ext_bits32 vs w (by assumption) h)) ?_
    refine VL.r (.inl rfl) rfl (by decide) (yr_intConv rfl Tryd.underlying133 Tryd.underlying2 rfl rfl) ?_
    refine VL.r (.inl rfl) rfl (by decide) (yr_assign rfl rfl) ?_
    refine VL.nil ?_
    refine VE.then_wp ?_
    refine V.ret ?_
    refine ret1 rfl rfl (fun w1 hw => ?_)
    exact ⟨_, rfl, hw.below, (fun _ h => by cases h), List.Pairwise.nil⟩

theorem c_hex {w : World} {x : Nat} : New Tryd.prog 49 [.float .f32 x] w (fun x : {s : ByteArray // tx s (8)} => .string x.1) (fun _ => []) := by
  refine New.enter Tryd.func49 rfl Tryd.ntmps49 (Nat.le_of_ble_eq_true rfl) ?_
  refine V.seq ?_
  refine V.region ?_
  refine VL.r (.inl rfl) rfl (by decide) (yr_assign rfl rfl) ?_
  refine VL.nil ?_
  refine VE.then_wp ?_
  refine V.seq ?_
  refine V.region ?_
  refine VL.r (.inl rfl) rfl (by decide) (yr_move rfl rfl) ?_
  refine VL.new (.inl rfl) rfl (by decide) (yn_callf rfl known71_Dt (.cons rfl .nil) (fun w hw => c_bits)) ?_
  intro z7
  refine VL.r (.inl rfl) rfl (by decide) (yr_assign rfl rfl) ?_
  refine VL.nil ?_
  refine VE.then_wp ?_
  refine V.seq ?_
  refine V.region ?_
  refine VL.new1 (.inl rfl) rfl (by decide) (yn_lit rfl Tryd.underlying34 elt5_Dt rfl (by decide) .nil (by first | (simp; done) | (simp [cn, cn1, cn0]; done)) rfl rfl rfl) ?_
  intro b8
  refine VL.r (.inl rfl) rfl (by decide) (yr_assign rfl rfl) ?_
  refine VL.nil ?_
  refine VE.then_wp ?_
  refine V.seq ?_
  refine V.seq ?_
  refine V.region ?_
  refine VL.r (.inl rfl) rfl (by decide) (yr_assign (u := .int .i64 28) rfl rfl) ?_
  refine VL.nil ?_
  refine VE.then_wp ?_
  refine V.block ?_
  refine V.loopc (G := (List Int) × Nat × (Option Addr) × Nat) [(3, _)] (fun ⟨t, k, ar, cr⟩ => HexI t k) (fun ⟨t, k, ar, cr⟩ => [⟨ar, bl t, cr * 1, 5⟩]) (fun ⟨t, k, ar, cr⟩ => [(4, .slice ar t.length cr), (5, .int .i64 (4 * (k : Int) - 4))]) (fun ⟨t, k, ar, cr⟩ => k) ([], 8, some ⟨b8, 0, none⟩, 0) (.cons rfl .nil) (.cons rfl (.cons rfl .nil)) ?_ ?_ ?_
  · exact (fun w hw => hw)
  · exact hexI_0
  rintro ⟨t, k, ar, cr⟩ hH
  show V _ _ _ [⟨ar, bl t, cr * 1, 5⟩] ([(4, .slice ar t.length cr), (5, .int .i64 (4 * (k : Int) - 4))] ++ [(3, _)]) _ _
  dsimp only at hH
  refine V.seq ?_
  refine V.seq ?_
  refine V.region ?_
  refine VL.r (.inl rfl) rfl (by decide) (yr_move rfl rfl) ?_
  refine VL.r (.inl rfl) rfl (by decide) (yr_icmp rfl (.inr (.inr (.inr (.inr (.inr rfl))))) rfl rfl) ?_
  refine VL.nil ?_
  refine VE.then_wp ?_
  refine V.cond rfl (fun h1 => ?_) (fun h1 => ?_)
  · skip
    replace h1 := ic_geq h1
    refine V.skip ?_
    refine VE.then_wp ?_
    refine V.seq ?_
    refine V.block ?_
    refine V.region ?_
    refine VL.r (.inl rfl) rfl (by decide) (yr_move rfl rfl) ?_
    refine VL.r (.inl rfl) rfl (by decide) (yr_move rfl rfl) ?_
    refine VL.r (.inl rfl) rfl (by decide) (yr_move rfl rfl) ?_
    refine VL.r (.inl rfl) rfl (by decide) (show YR _ _ _ (.int .u64 ((4 * k - 4 : Nat) : Int)) from yr_intConv rfl Tryd.underlying3 Tryd.underlying121 rfl ((congrArg _ (show (4 * (k : Int) - 4) = ((4 * k - 4 : Nat) : Int) by omega)).trans (wrapu (by omega) (by have := hH.1; omega)))) ?_
    refine VL.r (.inl rfl) rfl (by decide) (show YR _ _ _ (.int .i64 (shz z7 k)) from yr_shr (b := 4 * k - 4) rfl rfl rfl rfl) ?_
    refine VL.r (.inl rfl) rfl (by decide) (show YR _ _ _ (.int .i64 ((nib (shz z7 k) : Nat) : Int)) from yr_bits rfl rfl rfl (.inl ⟨rfl, nib_is _⟩)) ?_
    refine VL.r (.inl rfl) rfl (by decide) (yr_strByte (s := hexs) (i := nib (shz z7 k)) rfl Tryd.underlying9 rfl rfl rfl (nib_lt _)) ?_
    refine VL.new1 (.inl rfl) rfl (by decide) (yn_lit rfl Tryd.underlying34 elt5_Dt rfl (by decide) (.cons rfl .nil) (by first | (simp; done) | (simp [cn, cn1, cn0]; done)) rfl rfl rfl) ?_
    intro b20
    refine VL.c (.inl rfl) rfl (by decide) (yc_appendz 1 rfl rfl Tryd.underlying34 elt5_Dt rfl rfl (by repeat (first | exact UpdF.here | apply UpdF.there | apply UpdF.thereS)) (by first | exact Sees.root (by assumption) | exact Sees.own (by repeat (first | exact List.mem_cons_self | exact List.mem_append_left _ (by assumption) | apply List.mem_cons_of_mem | apply List.mem_append_right)) | exact Sees.root (hR _ (by omega)) | exact Sees.own (RowsIn.mem (by repeat (first | exact RowsIn.here | exact RowsIn.last | apply RowsIn.there | apply RowsIn.thereS)) _ (by omega)) | exact Sees.own (WRowsIn.mem (by repeat (first | exact WRowsIn.here | exact WRowsIn.last | apply WRowsIn.there | apply WRowsIn.thereS)) _ (by omega))) rfl (by rw [bl_length, Nat.mul_one]) rfl (by first | rfl | exact bl_scal _) (by first | rfl | exact bl_scal _) (by have := hH.1; omega) (by have := hH.1; omega)) ?_
    rintro ⟨a21, c21⟩
    refine VL.r (.inl rfl) rfl (by decide) (yr_assign rfl rfl) ?_
    refine VL.nil ?_
    refine VE.block_normal ?_
    refine VE.then_wp ?_
    refine V.region ?_
    refine VL.r (.inl rfl) rfl (by decide) (yr_move rfl rfl) ?_
    refine VL.r (.inl rfl) rfl (by decide) (yr_int rfl rfl rfl (.inr (.inl ⟨rfl, wrap_in (by have := hH.1; omega)⟩))) ?_
    refine VL.r (.inl rfl) rfl (by decide) (yr_assign rfl rfl) ?_
    refine VL.nil ?_
    refine VE.round (t ++ [(sb hexs (nib (shz z7 k)) : Int)], k - 1, a21, c21) ?_ ?_ ?_ ?_ ?_
    · exact (.cons (congrArg (fun n => some (Value.slice _ n _)) (by first | rfl | (rw [List.length_append]; rfl))) (.cons (congrArg (fun i => some (Value.int .i64 i)) (by omega)) .nil))
    · exact (.cons rfl .nil)
    · exact (fun w hw => by dsimp only; rw [← bl_snoc1]; exact hw.pick (by apply Pick.cons1; (· repeat (first | exact Rem.here | exact Rem.all | exact Rem.hereS | apply Rem.there | apply Rem.thereS)); exact Pick.nil))
    · exact hexI_s hH (by omega) (nib_lt _)
    · (try dsimp only); omega
  · skip
    replace h1 := ic_geq' h1
    refine V.exit ?_
    refine VE.then_exit ?_
    refine VE.then_exit ?_
    refine VE.block_here ?_
    refine VE.then_wp ?_
    refine V.seq ?_
    refine V.region ?_
    refine VL.r (.inl rfl) rfl (by decide) (yr_move rfl rfl) ?_
    refine VL.q (.inl rfl) rfl (by decide) (yq_bts (bs := t) rfl Tryd.underlying34 Tryd.underlying5 Tryd.underlying9 rfl (by first | exact Sees.root (by assumption) | exact Sees.own (by repeat (first | exact List.mem_cons_self | exact List.mem_append_left _ (by assumption) | apply List.mem_cons_of_mem | apply List.mem_append_right)) | exact Sees.root (hR _ (by omega)) | exact Sees.own (RowsIn.mem (by repeat (first | exact RowsIn.here | exact RowsIn.last | apply RowsIn.there | apply RowsIn.thereS)) _ (by omega)) | exact Sees.own (WRowsIn.mem (by repeat (first | exact WRowsIn.here | exact WRowsIn.last | apply WRowsIn.there | apply WRowsIn.thereS)) _ (by omega))) (by have := hH.1; omega)) ?_
    refine VL.r (.inl rfl) rfl (by decide) (yr_assign rfl rfl) ?_
    refine VL.nil ?_
    refine VE.then_wp ?_
    refine V.ret ?_
    refine ret1 rfl rfl (fun w1 hw => ?_)
    exact ⟨⟨stb t, hexI_tx hH⟩, rfl, hw.below, (fun _ h => by cases h), List.Pairwise.nil⟩

theorem c_ntext {w : World} {a : Option Addr} {c : Nat} {xs : List Nat} (hA : Cl w a (fl xs)) (hn : xs.length ≤ 1000) : New Tryd.prog 64 [.slice a xs.length c] w (fun x : {s : ByteArray // tx s (9 * xs.length + 4)} => .string x.1) (fun _ => []) := by
  refine New.enter Tryd.func64 rfl Tryd.ntmps64 (Nat.le_of_ble_eq_true rfl) ?_
  refine V.seq ?_
  refine V.region ?_
  refine VL.r (.inl rfl) rfl (by decide) (yr_assign rfl rfl) ?_
  refine VL.nil ?_
  refine VE.then_wp ?_
  refine V.seq ?_
  refine V.seq ?_
  refine V.region ?_
  refine VL.r (.inl rfl) rfl (by decide) (yr_move rfl rfl) ?_
  refine VL.r (.inl rfl) rfl (by decide) (yr_len rfl Tryd.underlying39 rfl) ?_
  refine VL.r (.inl rfl) rfl (by decide) (yr_icmp rfl (.inl rfl) rfl rfl) ?_
  refine VL.nil ?_
  refine VE.then_wp ?_
  refine V.cond rfl (fun h1 => ?_) (fun h1 => ?_)
  · skip
    replace h1 := ic_eql h1
    refine V.seq ?_
    refine V.region ?_
    refine VL.r (.inl rfl) rfl (by decide) (yr_assign rfl rfl) ?_
    refine VL.nil ?_
    refine VE.then_wp ?_
    refine V.ret ?_
    refine VE.then_ret ?_
    refine ret1 rfl rfl (fun w1 hw => ?_)
    exact ⟨⟨_, tx_mono (show tx ⟨#[110, 111, 110, 101]⟩ 4 from ⟨by decide, by decide⟩) (by first | omega | (simp only [List.length_cons, List.length_nil]; omega))⟩, rfl, hw.below, (fun _ h => by cases h), List.Pairwise.nil⟩
  · skip
    replace h1 := ic_eql' h1
    refine V.skip ?_
    refine VE.then_wp ?_
    refine V.seq ?_
    refine V.region ?_
    refine VL.r (.inl rfl) rfl (by decide) (yr_move rfl rfl) ?_
    refine VL.q (.inl rfl) rfl (by decide) (yq_idx (k := 0) rfl Tryd.underlying39 sz90_Dt rfl rfl (by first | exact Sees.root (by assumption) | exact Sees.own (by repeat (first | exact List.mem_cons_self | exact List.mem_append_left _ (by assumption) | apply List.mem_cons_of_mem | apply List.mem_append_right)) | exact Sees.root (hR _ (by omega)) | exact Sees.own (RowsIn.mem (by repeat (first | exact RowsIn.here | exact RowsIn.last | apply RowsIn.there | apply RowsIn.thereS)) _ (by omega)) | exact Sees.own (WRowsIn.mem (by repeat (first | exact WRowsIn.here | exact WRowsIn.last | apply WRowsIn.there | apply WRowsIn.thereS)) _ (by omega))) (by first | rfl | omega | (push_cast; rfl) | (push_cast; omega) | exact tmod_nat _ _) (by exact fl_length _) (by omega)) ?_
    refine VL.q (.inl rfl) rfl (by decide) (yq_loadF rfl fb90_Dt rfl (by first | exact Sees.root (by assumption) | exact Sees.own (by repeat (first | exact List.mem_cons_self | exact List.mem_append_left _ (by assumption) | apply List.mem_cons_of_mem | apply List.mem_append_right)) | exact Sees.root (hR _ (by omega)) | exact Sees.own (RowsIn.mem (by repeat (first | exact RowsIn.here | exact RowsIn.last | apply RowsIn.there | apply RowsIn.thereS)) _ (by omega)) | exact Sees.own (WRowsIn.mem (by repeat (first | exact WRowsIn.here | exact WRowsIn.last | apply WRowsIn.there | apply WRowsIn.thereS)) _ (by omega))) (by omega)) ?_
    refine VL.new (.inl rfl) rfl (by decide) (yn_callf rfl known49_Dt (.cons rfl .nil) (fun w hw => c_hex)) ?_
    rintro ⟨s11, hs11⟩
    dsimp only
    refine VL.r (.inl rfl) rfl (by decide) (yr_assign rfl rfl) ?_
    refine VL.nil ?_
    refine VE.then_wp ?_
    refine V.seq ?_
    refine V.seq ?_
    refine V.region ?_
    refine VL.r (.inl rfl) rfl (by decide) (yr_assign (u := .int .i64 1) rfl rfl) ?_
    refine VL.nil ?_
    refine VE.then_wp ?_
    refine V.block ?_
    refine V.loopc (G := Nat × ByteArray) [(0, _)] (fun ⟨k, s⟩ => (1 ≤ k ∧ k ≤ xs.length) ∧ tx s (9 * k)) (fun ⟨k, s⟩ => []) (fun ⟨k, s⟩ => [(3, .string s), (4, .int .i64 (k : Int))]) (fun ⟨k, s⟩ => xs.length - k) (1, s11) (.cons rfl .nil) (.cons rfl (.cons rfl .nil)) ?_ ?_ ?_
    · exact (fun w hw => hw.sub (List.nil_sublist _))
    · exact (by exact ⟨⟨Nat.le_refl _, by omega⟩, tx_mono hs11 (by decide)⟩)
    rintro ⟨k, s⟩ ⟨hk, hI⟩
    show V _ _ _ [] ([(3, .string s), (4, .int .i64 (k : Int))] ++ [(0, _)]) _ _
    refine V.seq ?_
    refine V.seq ?_
    refine V.region ?_
    refine VL.r (.inl rfl) rfl (by decide) (yr_move rfl rfl) ?_
    refine VL.r (.inl rfl) rfl (by decide) (yr_move rfl rfl) ?_
    refine VL.r (.inl rfl) rfl (by decide) (yr_len rfl Tryd.underlying39 rfl) ?_
    refine VL.r (.inl rfl) rfl (by decide) (yr_icmp rfl (.inr (.inr (.inl rfl))) rfl rfl) ?_
    refine VL.nil ?_
    refine VE.then_wp ?_
    refine V.cond rfl (fun h2 => ?_) (fun h2 => ?_)
    · skip
      replace h2 := ic_lss h2
      refine V.skip ?_
      refine VE.then_wp ?_
      refine V.seq ?_
      refine V.block ?_
      refine V.region ?_
      refine VL.r (.inl rfl) rfl (by decide) (yr_move rfl rfl) ?_
      refine VL.r (.inl rfl) rfl (by decide) (yr_move rfl rfl) ?_
      refine VL.r (.inl rfl) rfl (by decide) (yr_move rfl rfl) ?_
      refine VL.q (.inl rfl) rfl (by decide) (yq_idx (k := k) rfl Tryd.underlying39 sz90_Dt rfl rfl (by first | exact Sees.root (by assumption) | exact Sees.own (by repeat (first | exact List.mem_cons_self | exact List.mem_append_left _ (by assumption) | apply List.mem_cons_of_mem | apply List.mem_append_right)) | exact Sees.root (hR _ (by omega)) | exact Sees.own (RowsIn.mem (by repeat (first | exact RowsIn.here | exact RowsIn.last | apply RowsIn.there | apply RowsIn.thereS)) _ (by omega)) | exact Sees.own (WRowsIn.mem (by repeat (first | exact WRowsIn.here | exact WRowsIn.last | apply WRowsIn.there | apply WRowsIn.thereS)) _ (by omega))) (by first | rfl | omega | (push_cast; rfl) | (push_cast; omega) | exact tmod_nat _ _) (by exact fl_length _) (by omega)) ?_
      refine VL.q (.inl rfl) rfl (by decide) (yq_loadF rfl fb90_Dt rfl (by first | exact Sees.root (by assumption) | exact Sees.own (by repeat (first | exact List.mem_cons_self | exact List.mem_append_left _ (by assumption) | apply List.mem_cons_of_mem | apply List.mem_append_right)) | exact Sees.root (hR _ (by omega)) | exact Sees.own (RowsIn.mem (by repeat (first | exact RowsIn.here | exact RowsIn.last | apply RowsIn.there | apply RowsIn.thereS)) _ (by omega)) | exact Sees.own (WRowsIn.mem (by repeat (first | exact WRowsIn.here | exact WRowsIn.last | apply WRowsIn.there | apply WRowsIn.thereS)) _ (by omega))) (by omega)) ?_
      refine VL.new (.inl rfl) rfl (by decide) (yn_callf rfl known49_Dt (.cons rfl .nil) (fun w hw => c_hex)) ?_
      rintro ⟨s23, hs23⟩
      dsimp only
      refine VL.r (.inl rfl) rfl (by decide) (yr_catT rfl rfl rfl (show tx ⟨#[44]⟩ 1 from ⟨by decide, by decide⟩) hs23 (by first | omega | (simp only [List.length_cons, List.length_nil]; omega))) ?_
      refine VL.r (.inl rfl) rfl (by decide) (yr_catT rfl rfl rfl hI (tx_app (show tx ⟨#[44]⟩ 1 from ⟨by decide, by decide⟩) hs23) (by first | omega | (simp only [List.length_cons, List.length_nil]; omega))) ?_
      refine VL.r (.inl rfl) rfl (by decide) (yr_assign rfl rfl) ?_
      refine VL.nil ?_
      refine VE.block_normal ?_
      refine VE.then_wp ?_
      refine V.region ?_
      refine VL.r (.inl rfl) rfl (by decide) (yr_move rfl rfl) ?_
      refine VL.r (.inl rfl) rfl (by decide) (yr_int rfl rfl rfl (.inl ⟨rfl, wrap_in (by omega)⟩)) ?_
      refine VL.r (.inl rfl) rfl (by decide) (yr_assign rfl rfl) ?_
      refine VL.nil ?_
      refine VE.round (k + 1, s ++ (⟨#[44]⟩ ++ s23)) ?_ ?_ ?_ ?_ ?_
      · exact (.cons rfl (.cons rfl .nil))
      · exact (.cons rfl .nil)
      · exact (fun w hw => hw.sub (List.nil_sublist _))
      · exact ⟨⟨by omega, by omega⟩, tx_mono (tx_app hI (tx_app (show tx ⟨#[44]⟩ 1 from ⟨by decide, by decide⟩) hs23)) (by first | omega | (simp only [List.length_cons, List.length_nil]; omega))⟩
      · (try dsimp only); omega
    · skip
      replace h2 := ic_lss' h2
      refine V.exit ?_
      refine VE.then_exit ?_
      refine VE.then_exit ?_
      refine VE.block_here ?_
      refine VE.then_wp ?_
      refine V.seq ?_
      refine V.region ?_
      refine VL.r (.inl rfl) rfl (by decide) (yr_move rfl rfl) ?_
      refine VL.r (.inl rfl) rfl (by decide) (yr_assign rfl rfl) ?_
      refine VL.nil ?_
      refine VE.then_wp ?_
      refine V.ret ?_
      refine ret1 rfl rfl (fun w1 hw => ?_)
      exact ⟨⟨_, tx_mono hI (by first | omega | (simp only [List.length_cons, List.length_nil]; omega))⟩, rfl, hw.below, (fun _ h => by cases h), List.Pairwise.nil⟩

theorem c_vtext {w : World} {x1 x2 x3 : Nat} : New Tryd.prog 55 [vv (x1, x2, x3)] w (fun x : {s : ByteArray // tx s (31)} => .string x.1) (fun _ => []) := by
  refine New.enter Tryd.func55 rfl Tryd.ntmps55 (Nat.le_of_ble_eq_true rfl) ?_
  refine V.seq ?_
  refine V.region ?_
  refine VL.new1 (.inl rfl) rfl (by decide) (yn_box rfl rfl (.inr ⟨rfl, rfl⟩)) ?_
  intro b1
  refine VL.r (.inl rfl) rfl (by decide) (yr_assign rfl rfl) ?_
  refine VL.nil ?_
  refine VE.then_wp ?_
  refine V.seq ?_
  refine V.region ?_
  refine VL.r (.inl rfl) rfl (by decide) (yr_fieldAddr rfl Tryd.underlying101 rfl rfl sz90_Dt (by decide) rfl) ?_
  refine VL.q (.inl rfl) rfl (by decide) (yq_load rfl fb90_Dt rfl (by first | exact Sees.root (by assumption) | exact Sees.own (by repeat (first | exact List.mem_cons_self | exact List.mem_append_left _ (by assumption) | apply List.mem_cons_of_mem | apply List.mem_append_right)) | exact Sees.root (hR _ (by omega)) | exact Sees.own (RowsIn.mem (by repeat (first | exact RowsIn.here | exact RowsIn.last | apply RowsIn.there | apply RowsIn.thereS)) _ (by omega)) | exact Sees.own (WRowsIn.mem (by repeat (first | exact WRowsIn.here | exact WRowsIn.last | apply WRowsIn.there | apply WRowsIn.thereS)) _ (by omega))) rfl) ?_
  refine VL.r (.inl rfl) rfl (by decide) (yr_fieldAddr rfl Tryd.underlying101 rfl rfl sz90_Dt (by decide) rfl) ?_
  refine VL.q (.inl rfl) rfl (by decide) (yq_load rfl fb90_Dt rfl (by first | exact Sees.root (by assumption) | exact Sees.own (by repeat (first | exact List.mem_cons_self | exact List.mem_append_left _ (by assumption) | apply List.mem_cons_of_mem | apply List.mem_append_right)) | exact Sees.root (hR _ (by omega)) | exact Sees.own (RowsIn.mem (by repeat (first | exact RowsIn.here | exact RowsIn.last | apply RowsIn.there | apply RowsIn.thereS)) _ (by omega)) | exact Sees.own (WRowsIn.mem (by repeat (first | exact WRowsIn.here | exact WRowsIn.last | apply WRowsIn.there | apply WRowsIn.thereS)) _ (by omega))) rfl) ?_
  refine VL.r (.inl rfl) rfl (by decide) (yr_fieldAddr rfl Tryd.underlying101 rfl rfl sz90_Dt (by decide) rfl) ?_
  refine VL.q (.inl rfl) rfl (by decide) (yq_load rfl fb90_Dt rfl (by first | exact Sees.root (by assumption) | exact Sees.own (by repeat (first | exact List.mem_cons_self | exact List.mem_append_left _ (by assumption) | apply List.mem_cons_of_mem | apply List.mem_append_right)) | exact Sees.root (hR _ (by omega)) | exact Sees.own (RowsIn.mem (by repeat (first | exact RowsIn.here | exact RowsIn.last | apply RowsIn.there | apply RowsIn.thereS)) _ (by omega)) | exact Sees.own (WRowsIn.mem (by repeat (first | exact WRowsIn.here | exact WRowsIn.last | apply WRowsIn.there | apply WRowsIn.thereS)) _ (by omega))) rfl) ?_
  refine VL.new1 (.inl rfl) rfl (by decide) (yn_lit rfl Tryd.underlying39 elt90_Dt rfl (by decide) (.cons rfl (.cons rfl (.cons rfl .nil))) (by first | (simp; done) | (simp [cn, cn1, cn0]; done)) rfl rfl rfl) ?_
  intro b9
  refine VL.new (.inl rfl) rfl (by decide) (yn_callf rfl known64_Dt (.cons rfl .nil) (fun w hw => (c_ntext (xs := [x1, x2, x3]) (by first | exact Sees.root (by assumption) w hw | exact Sees.own (by repeat (first | exact List.mem_cons_self | exact List.mem_append_left _ (by assumption) | apply List.mem_cons_of_mem | apply List.mem_append_right)) w hw) (by first | decide | omega | (simp; done))))) ?_
  rintro ⟨s10, hs10⟩
  dsimp only
  refine VL.r (.inl rfl) rfl (by decide) (yr_assign rfl rfl) ?_
  refine VL.nil ?_
  refine VE.then_wp ?_
  refine V.ret ?_
  refine ret1 rfl rfl (fun w1 hw => ?_)
  exact ⟨⟨_, tx_mono hs10 (by first | omega | (simp only [List.length_cons, List.length_nil]; omega))⟩, rfl, hw.below, (fun _ h => by cases h), List.Pairwise.nil⟩

theorem c_wireT {w : World} {q a : Option Addr} {c : Nat} {vs : List V3} {cl : Bool} {cur : Nat} (hQ : Cl w q [.slice a vs.length c, .bool cl, .float .f32 cur]) (hA : Cl w a (vl vs)) (hn : vs.length ≤ 20) : New Tryd.prog 52 [.pointer (some (adr q 0))] w (fun x : {s : ByteArray // tx s (32 * vs.length + 30)} => .string x.1) (fun _ => []) := by
  refine New.enter Tryd.func52 rfl Tryd.ntmps52 (Nat.le_of_ble_eq_true rfl) ?_
  refine V.seq ?_
  refine V.region ?_
  refine VL.r (.inl rfl) rfl (by decide) (yr_assign rfl rfl) ?_
  refine VL.nil ?_
  refine VE.then_wp ?_
  refine V.seq ?_
  refine V.region ?_
  refine VL.r (.inl rfl) rfl (by decide) (yr_assign rfl rfl) ?_
  refine VL.nil ?_
  refine VE.then_wp ?_
  refine V.seq ?_
  refine V.seq ?_
  refine V.region ?_
  refine VL.r (.inl rfl) rfl (by decide) (yr_move rfl rfl) ?_
  refine VL.r (.inl rfl) rfl (by decide) (yr_nilCheck rfl rfl) ?_
  refine VL.r (.inl rfl) rfl (by decide) (yr_fieldAddr rfl Tryd.underlying93 rfl rfl sz91_Dt (by decide) rfl) ?_
  refine VL.q (.inl rfl) rfl (by decide) (yq_load rfl fb91_Dt rfl (by first | exact Sees.root (by assumption) | exact Sees.own (by repeat (first | exact List.mem_cons_self | exact List.mem_append_left _ (by assumption) | apply List.mem_cons_of_mem | apply List.mem_append_right)) | exact Sees.root (hR _ (by omega)) | exact Sees.own (RowsIn.mem (by repeat (first | exact RowsIn.here | exact RowsIn.last | apply RowsIn.there | apply RowsIn.thereS)) _ (by omega)) | exact Sees.own (WRowsIn.mem (by repeat (first | exact WRowsIn.here | exact WRowsIn.last | apply WRowsIn.there | apply WRowsIn.thereS)) _ (by omega))) rfl) ?_
  refine VL.r (.inl rfl) rfl (by decide) (yr_len rfl Tryd.underlying91 rfl) ?_
  refine VL.r (.inl rfl) rfl (by decide) (yr_move (u := .int .i64 0) rfl rfl) ?_
  refine VL.nil ?_
  refine VE.then_wp ?_
  refine V.block ?_
  refine V.loopc (G := Nat × ByteArray) [(0, _), (9, _)] (fun ⟨k, s⟩ => k ≤ vs.length ∧ tx s (32 * k)) (fun ⟨k, s⟩ => []) (fun ⟨k, s⟩ => [(3, .string s), (10, .int .i64 (k : Int))]) (fun ⟨k, s⟩ => vs.length - k) (0, ⟨#[]⟩) (.cons rfl (.cons rfl .nil)) (.cons rfl (.cons rfl .nil)) ?_ ?_ ?_
  · exact (fun w hw => hw.sub (List.nil_sublist _))
  · exact (by exact ⟨Nat.zero_le _, tx_nil _⟩)
  rintro ⟨k, s⟩ ⟨hk, hI⟩
  show V _ _ _ [] ([(3, .string s), (10, .int .i64 (k : Int))] ++ [(0, _), (9, _)]) _ _
  refine V.seq ?_
  refine V.region ?_
  refine VL.r (.inl rfl) rfl (by decide) (yr_icmp rfl (.inr (.inr (.inl rfl))) rfl rfl) ?_
  refine VL.nil ?_
  refine VE.then_wp ?_
  refine V.seq ?_
  refine V.cond rfl (fun h1 => ?_) (fun h1 => ?_)
  · skip
    replace h1 := ic_lss h1
    refine V.skip ?_
    refine VE.then_wp ?_
    refine V.seq ?_
    refine V.block ?_
    refine V.seq ?_
    refine V.region ?_
    refine VL.r (.inl rfl) rfl (by decide) (yr_move rfl rfl) ?_
    refine VL.r (.inl rfl) rfl (by decide) (yr_assign rfl rfl) ?_
    refine VL.nil ?_
    refine VE.then_wp ?_
    refine V.seq ?_
    refine V.seq ?_
    refine V.region ?_
    refine VL.r (.inl rfl) rfl (by decide) (yr_move rfl rfl) ?_
    refine VL.r (.inl rfl) rfl (by decide) (yr_icmp rfl (.inr (.inr (.inr (.inr (.inl rfl))))) rfl rfl) ?_
    refine VL.nil ?_
    refine VE.then_wp ?_
    refine V.cond rfl (fun h2 => ?_) (fun h2 => ?_)
    · skip
      replace h2 := ic_gtr h2
      refine V.region ?_
      refine VL.r (.inl rfl) rfl (by decide) (yr_move rfl rfl) ?_
      refine VL.r (.inl rfl) rfl (by decide) (yr_catT rfl rfl rfl hI (show tx ⟨#[47]⟩ 1 from ⟨by decide, by decide⟩) (by first | omega | (simp only [List.length_cons, List.length_nil]; omega))) ?_
      refine VL.r (.inl rfl) rfl (by decide) (yr_assign rfl rfl) ?_
      refine VL.nil ?_
      refine VE.then_wp ?_
      refine V.region ?_
      refine VL.r (.inl rfl) rfl (by decide) (yr_move rfl rfl) ?_
      refine VL.r (.inl rfl) rfl (by decide) (yr_move rfl rfl) ?_
      refine VL.r (.inl rfl) rfl (by decide) (yr_nilCheck rfl rfl) ?_
      refine VL.r (.inl rfl) rfl (by decide) (yr_fieldAddr rfl Tryd.underlying93 rfl rfl sz91_Dt (by decide) rfl) ?_
      refine VL.q (.inl rfl) rfl (by decide) (yq_load rfl fb91_Dt rfl (by first | exact Sees.root (by assumption) | exact Sees.own (by repeat (first | exact List.mem_cons_self | exact List.mem_append_left _ (by assumption) | apply List.mem_cons_of_mem | apply List.mem_append_right)) | exact Sees.root (hR _ (by omega)) | exact Sees.own (RowsIn.mem (by repeat (first | exact RowsIn.here | exact RowsIn.last | apply RowsIn.there | apply RowsIn.thereS)) _ (by omega)) | exact Sees.own (WRowsIn.mem (by repeat (first | exact WRowsIn.here | exact WRowsIn.last | apply WRowsIn.there | apply WRowsIn.thereS)) _ (by omega))) rfl) ?_
      refine VL.r (.inl rfl) rfl (by decide) (yr_move rfl rfl) ?_
      refine VL.q (.inl rfl) rfl (by decide) (yq_idxN (k := k) rfl Tryd.underlying91 sz101_Dt rfl rfl (by first | exact Sees.root (by assumption) | exact Sees.own (by repeat (first | exact List.mem_cons_self | exact List.mem_append_left _ (by assumption) | apply List.mem_cons_of_mem | apply List.mem_append_right)) | exact Sees.root (hR _ (by omega)) | exact Sees.own (RowsIn.mem (by repeat (first | exact RowsIn.here | exact RowsIn.last | apply RowsIn.there | apply RowsIn.thereS)) _ (by omega)) | exact Sees.own (WRowsIn.mem (by repeat (first | exact WRowsIn.here | exact WRowsIn.last | apply WRowsIn.there | apply WRowsIn.thereS)) _ (by omega))) (by first | rfl | omega | (push_cast; rfl) | (push_cast; omega) | exact tmod_nat _ _) (by exact vl_length _) (by decide) (by omega)) ?_
      refine VL.q (.inl rfl) rfl (by decide) (yq_loadV rfl Tryd.underlying101 sz101_Dt rfl (by first | exact Sees.root (by assumption) | exact Sees.own (by repeat (first | exact List.mem_cons_self | exact List.mem_append_left _ (by assumption) | apply List.mem_cons_of_mem | apply List.mem_append_right)) | exact Sees.root (hR _ (by omega)) | exact Sees.own (RowsIn.mem (by repeat (first | exact RowsIn.here | exact RowsIn.last | apply RowsIn.there | apply RowsIn.thereS)) _ (by omega)) | exact Sees.own (WRowsIn.mem (by repeat (first | exact WRowsIn.here | exact WRowsIn.last | apply WRowsIn.there | apply WRowsIn.thereS)) _ (by omega))) (by omega)) ?_
      refine VL.new (.inl rfl) rfl (by decide) (yn_callf rfl known55_Dt (.cons rfl .nil) (fun w hw => (c_vtext (x1 := (vs.getD k z3).1) (x2 := (vs.getD k z3).2.1) (x3 := (vs.getD k z3).2.2)))) ?_
      rintro ⟨s25, hs25⟩
      dsimp only
      refine VL.r (.inl rfl) rfl (by decide) (yr_catT rfl rfl rfl (tx_app hI (show tx ⟨#[47]⟩ 1 from ⟨by decide, by decide⟩)) hs25 (by first | omega | (simp only [List.length_cons, List.length_nil]; omega))) ?_
      refine VL.r (.inl rfl) rfl (by decide) (yr_assign rfl rfl) ?_
      refine VL.nil ?_
      refine VE.block_normal ?_
      refine VE.then_wp ?_
      refine V.region ?_
      refine VL.r (.inl rfl) rfl (by decide) (yr_int rfl rfl rfl (.inl ⟨rfl, wrap_in (by omega)⟩)) ?_
      refine VL.r (.inl rfl) rfl (by decide) (yr_move rfl rfl) ?_
      refine VL.nil ?_
      refine VE.round (k + 1, s ++ ⟨#[47]⟩ ++ s25) ?_ ?_ ?_ ?_ ?_
      · exact (.cons rfl (.cons rfl .nil))
      · exact (.cons rfl (.cons rfl .nil))
      · exact (fun w hw => hw.sub (List.nil_sublist _))
      · exact ⟨by omega, tx_mono (tx_app (tx_app hI (show tx ⟨#[47]⟩ 1 from ⟨by decide, by decide⟩)) hs25) (by first | omega | (simp only [List.length_cons, List.length_nil]; omega))⟩
      · (try dsimp only); omega
    · skip
      replace h2 := ic_gtr' h2
      refine V.skip ?_
      refine VE.then_wp ?_
      refine V.region ?_
      refine VL.r (.inl rfl) rfl (by decide) (yr_move rfl rfl) ?_
      refine VL.r (.inl rfl) rfl (by decide) (yr_move rfl rfl) ?_
      refine VL.r (.inl rfl) rfl (by decide) (yr_nilCheck rfl rfl) ?_
      refine VL.r (.inl rfl) rfl (by decide) (yr_fieldAddr rfl Tryd.underlying93 rfl rfl sz91_Dt (by decide) rfl) ?_
      refine VL.q (.inl rfl) rfl (by decide) (yq_load rfl fb91_Dt rfl (by first | exact Sees.root (by assumption) | exact Sees.own (by repeat (first | exact List.mem_cons_self | exact List.mem_append_left _ (by assumption) | apply List.mem_cons_of_mem | apply List.mem_append_right)) | exact Sees.root (hR _ (by omega)) | exact Sees.own (RowsIn.mem (by repeat (first | exact RowsIn.here | exact RowsIn.last | apply RowsIn.there | apply RowsIn.thereS)) _ (by omega)) | exact Sees.own (WRowsIn.mem (by repeat (first | exact WRowsIn.here | exact WRowsIn.last | apply WRowsIn.there | apply WRowsIn.thereS)) _ (by omega))) rfl) ?_
      refine VL.r (.inl rfl) rfl (by decide) (yr_move rfl rfl) ?_
      refine VL.q (.inl rfl) rfl (by decide) (yq_idxN (k := k) rfl Tryd.underlying91 sz101_Dt rfl rfl (by first | exact Sees.root (by assumption) | exact Sees.own (by repeat (first | exact List.mem_cons_self | exact List.mem_append_left _ (by assumption) | apply List.mem_cons_of_mem | apply List.mem_append_right)) | exact Sees.root (hR _ (by omega)) | exact Sees.own (RowsIn.mem (by repeat (first | exact RowsIn.here | exact RowsIn.last | apply RowsIn.there | apply RowsIn.thereS)) _ (by omega)) | exact Sees.own (WRowsIn.mem (by repeat (first | exact WRowsIn.here | exact WRowsIn.last | apply WRowsIn.there | apply WRowsIn.thereS)) _ (by omega))) (by first | rfl | omega | (push_cast; rfl) | (push_cast; omega) | exact tmod_nat _ _) (by exact vl_length _) (by decide) (by omega)) ?_
      refine VL.q (.inl rfl) rfl (by decide) (yq_loadV rfl Tryd.underlying101 sz101_Dt rfl (by first | exact Sees.root (by assumption) | exact Sees.own (by repeat (first | exact List.mem_cons_self | exact List.mem_append_left _ (by assumption) | apply List.mem_cons_of_mem | apply List.mem_append_right)) | exact Sees.root (hR _ (by omega)) | exact Sees.own (RowsIn.mem (by repeat (first | exact RowsIn.here | exact RowsIn.last | apply RowsIn.there | apply RowsIn.thereS)) _ (by omega)) | exact Sees.own (WRowsIn.mem (by repeat (first | exact WRowsIn.here | exact WRowsIn.last | apply WRowsIn.there | apply WRowsIn.thereS)) _ (by omega))) (by omega)) ?_
      refine VL.new (.inl rfl) rfl (by decide) (yn_callf rfl known55_Dt (.cons rfl .nil) (fun w hw => (c_vtext (x1 := (vs.getD k z3).1) (x2 := (vs.getD k z3).2.1) (x3 := (vs.getD k z3).2.2)))) ?_
      rintro ⟨s25, hs25⟩
      dsimp only
      refine VL.r (.inl rfl) rfl (by decide) (yr_catT rfl rfl rfl hI hs25 (by first | omega | (simp only [List.length_cons, List.length_nil]; omega))) ?_
      refine VL.r (.inl rfl) rfl (by decide) (yr_assign rfl rfl) ?_
      refine VL.nil ?_
      refine VE.block_normal ?_
      refine VE.then_wp ?_
      refine V.region ?_
      refine VL.r (.inl rfl) rfl (by decide) (yr_int rfl rfl rfl (.inl ⟨rfl, wrap_in (by omega)⟩)) ?_
      refine VL.r (.inl rfl) rfl (by decide) (yr_move rfl rfl) ?_
      refine VL.nil ?_
      refine VE.round (k + 1, s ++ s25) ?_ ?_ ?_ ?_ ?_
      · exact (.cons rfl (.cons rfl .nil))
      · exact (.cons rfl (.cons rfl .nil))
      · exact (fun w hw => hw.sub (List.nil_sublist _))
      · exact ⟨by omega, tx_mono (tx_app hI hs25) (by first | omega | (simp only [List.length_cons, List.length_nil]; omega))⟩
      · (try dsimp only); omega
  · skip
    replace h1 := ic_lss' h1
    refine V.exit ?_
    refine VE.then_exit ?_
    refine VE.then_exit ?_
    refine VE.block_here ?_
    refine VE.then_wp ?_
    refine V.seq ?_
    refine V.seq ?_
    refine V.region ?_
    refine VL.r (.inl rfl) rfl (by decide) (yr_move rfl rfl) ?_
    refine VL.r (.inl rfl) rfl (by decide) (yr_nilCheck rfl rfl) ?_
    refine VL.r (.inl rfl) rfl (by decide) (yr_fieldAddr rfl Tryd.underlying93 rfl rfl sz4_Dt (by decide) rfl) ?_
    refine VL.q (.inl rfl) rfl (by decide) (yq_load rfl fb4_Dt rfl (by first | exact Sees.root (by assumption) | exact Sees.own (by repeat (first | exact List.mem_cons_self | exact List.mem_append_left _ (by assumption) | apply List.mem_cons_of_mem | apply List.mem_append_right)) | exact Sees.root (hR _ (by omega)) | exact Sees.own (RowsIn.mem (by repeat (first | exact RowsIn.here | exact RowsIn.last | apply RowsIn.there | apply RowsIn.thereS)) _ (by omega)) | exact Sees.own (WRowsIn.mem (by repeat (first | exact WRowsIn.here | exact WRowsIn.last | apply WRowsIn.there | apply WRowsIn.thereS)) _ (by omega))) rfl) ?_
    refine VL.nil ?_
    refine VE.then_wp ?_
    refine V.cond rfl (fun h3 => ?_) (fun h3 => ?_)
    · skip
      refine V.region ?_
      refine VL.r (.inl rfl) rfl (by decide) (yr_move rfl rfl) ?_
      refine VL.r (.inl rfl) rfl (by decide) (yr_catT rfl rfl rfl hI (show tx ⟨#[59, 99, 108, 111, 115, 101, 100, 59]⟩ 8 from ⟨by decide, by decide⟩) (by first | omega | (simp only [List.length_cons, List.length_nil]; omega))) ?_
      refine VL.r (.inl rfl) rfl (by decide) (yr_assign rfl rfl) ?_
      refine VL.nil ?_
      refine VE.then_wp ?_
      refine V.seq ?_
      refine V.region ?_
      refine VL.r (.inl rfl) rfl (by decide) (yr_move rfl rfl) ?_
      refine VL.r (.inl rfl) rfl (by decide) (yr_move rfl rfl) ?_
      refine VL.r (.inl rfl) rfl (by decide) (yr_nilCheck rfl rfl) ?_
      refine VL.r (.inl rfl) rfl (by decide) (yr_fieldAddr rfl Tryd.underlying93 rfl rfl sz90_Dt (by decide) rfl) ?_
      refine VL.q (.inl rfl) rfl (by decide) (yq_load rfl fb90_Dt rfl (by first | exact Sees.root (by assumption) | exact Sees.own (by repeat (first | exact List.mem_cons_self | exact List.mem_append_left _ (by assumption) | apply List.mem_cons_of_mem | apply List.mem_append_right)) | exact Sees.root (hR _ (by omega)) | exact Sees.own (RowsIn.mem (by repeat (first | exact RowsIn.here | exact RowsIn.last | apply RowsIn.there | apply RowsIn.thereS)) _ (by omega)) | exact Sees.own (WRowsIn.mem (by repeat (first | exact WRowsIn.here | exact WRowsIn.last | apply WRowsIn.there | apply WRowsIn.thereS)) _ (by omega))) rfl) ?_
      refine VL.new1 (.inl rfl) rfl (by decide) (yn_lit rfl Tryd.underlying39 elt90_Dt rfl (by decide) (.cons rfl .nil) (by first | (simp; done) | (simp [cn, cn1, cn0]; done)) rfl rfl rfl) ?_
      intro b41
      refine VL.new (.inl rfl) rfl (by decide) (yn_callf rfl known64_Dt (.cons rfl .nil) (fun w hw => (c_ntext (xs := [cur]) (by first | exact Sees.root (by assumption) w hw | exact Sees.own (by repeat (first | exact List.mem_cons_self | exact List.mem_append_left _ (by assumption) | apply List.mem_cons_of_mem | apply List.mem_append_right)) w hw) (by first | decide | omega | (simp; done))))) ?_
      rintro ⟨s42, hs42⟩
      dsimp only
      refine VL.r (.inl rfl) rfl (by decide) (yr_catT rfl rfl rfl (tx_app hI (show tx ⟨#[59, 99, 108, 111, 115, 101, 100, 59]⟩ 8 from ⟨by decide, by decide⟩)) hs42 (by first | omega | (simp only [List.length_cons, List.length_nil]; omega))) ?_
      refine VL.r (.inl rfl) rfl (by decide) (yr_assign rfl rfl) ?_
      refine VL.nil ?_
      refine VE.then_wp ?_
      refine V.ret ?_
      refine ret1 rfl rfl (fun w1 hw => ?_)
      exact ⟨⟨_, tx_mono (tx_app (tx_app hI (show tx ⟨#[59, 99, 108, 111, 115, 101, 100, 59]⟩ 8 from ⟨by decide, by decide⟩)) hs42) (by first | omega | (simp only [List.length_cons, List.length_nil]; omega))⟩, rfl, hw.below, (fun _ h => by cases h), List.Pairwise.nil⟩
    · skip
      refine V.region ?_
      refine VL.r (.inl rfl) rfl (by decide) (yr_move rfl rfl) ?_
      refine VL.r (.inl rfl) rfl (by decide) (yr_catT rfl rfl rfl hI (show tx ⟨#[59, 111, 112, 101, 110, 59]⟩ 6 from ⟨by decide, by decide⟩) (by first | omega | (simp only [List.length_cons, List.length_nil]; omega))) ?_
      refine VL.r (.inl rfl) rfl (by decide) (yr_assign rfl rfl) ?_
      refine VL.nil ?_
      refine VE.then_wp ?_
      refine V.seq ?_
      refine V.region ?_
      refine VL.r (.inl rfl) rfl (by decide) (yr_move rfl rfl) ?_
      refine VL.r (.inl rfl) rfl (by decide) (yr_move rfl rfl) ?_
      refine VL.r (.inl rfl) rfl (by decide) (yr_nilCheck rfl rfl) ?_
      refine VL.r (.inl rfl) rfl (by decide) (yr_fieldAddr rfl Tryd.underlying93 rfl rfl sz90_Dt (by decide) rfl) ?_
      refine VL.q (.inl rfl) rfl (by decide) (yq_load rfl fb90_Dt rfl (by first | exact Sees.root (by assumption) | exact Sees.own (by repeat (first | exact List.mem_cons_self | exact List.mem_append_left _ (by assumption) | apply List.mem_cons_of_mem | apply List.mem_append_right)) | exact Sees.root (hR _ (by omega)) | exact Sees.own (RowsIn.mem (by repeat (first | exact RowsIn.here | exact RowsIn.last | apply RowsIn.there | apply RowsIn.thereS)) _ (by omega)) | exact Sees.own (WRowsIn.mem (by repeat (first | exact WRowsIn.here | exact WRowsIn.last | apply WRowsIn.there | apply WRowsIn.thereS)) _ (by omega))) rfl) ?_
      refine VL.new1 (.inl rfl) rfl (by decide) (yn_lit rfl Tryd.underlying39 elt90_Dt rfl (by decide) (.cons rfl .nil) (by first | (simp; done) | (simp [cn, cn1, cn0]; done)) rfl rfl rfl) ?_
      intro b41
      refine VL.new (.inl rfl) rfl (by decide) (yn_callf rfl known64_Dt (.cons rfl .nil) (fun w hw => (c_ntext (xs := [cur]) (by first | exact Sees.root (by assumption) w hw | exact Sees.own (by repeat (first | exact List.mem_cons_self | exact List.mem_append_left _ (by assumption) | apply List.mem_cons_of_mem | apply List.mem_append_right)) w hw) (by first | decide | omega | (simp; done))))) ?_
      rintro ⟨s42, hs42⟩
      dsimp only
      refine VL.r (.inl rfl) rfl (by decide) (yr_catT rfl rfl rfl (tx_app hI (show tx ⟨#[59, 111, 112, 101, 110, 59]⟩ 6 from ⟨by decide, by decide⟩)) hs42 (by first | omega | (simp only [List.length_cons, List.length_nil]; omega))) ?_
      refine VL.r (.inl rfl) rfl (by decide) (yr_assign rfl rfl) ?_
      refine VL.nil ?_
      refine VE.then_wp ?_
      refine V.ret ?_
      refine ret1 rfl rfl (fun w1 hw => ?_)
      exact ⟨⟨_, tx_mono (tx_app (tx_app hI (show tx ⟨#[59, 111, 112, 101, 110, 59]⟩ 6 from ⟨by decide, by decide⟩)) hs42) (by first | omega | (simp only [List.length_cons, List.length_nil]; omega))⟩, rfl, hw.below, (fun _ h => by cases h), List.Pairwise.nil⟩

theorem c_polesT {w : World} {a : Option Addr} {c : Nat} {ps : List Pl} (hA : Cl w a (pl ps)) (hn : ps.length ≤ 20) : New Tryd.prog 58 [.slice a ps.length c] w (fun x : {s : ByteArray // tx s (50 * ps.length + 4)} => .string x.1) (fun _ => []) := by
  refine New.enter Tryd.func58 rfl Tryd.ntmps58 (Nat.le_of_ble_eq_true rfl) ?_
  refine V.seq ?_
  refine V.region ?_
  refine VL.r (.inl rfl) rfl (by decide) (yr_assign rfl rfl) ?_
  refine VL.nil ?_
  refine VE.then_wp ?_
  refine V.seq ?_
  refine V.seq ?_
  refine V.region ?_
  refine VL.r (.inl rfl) rfl (by decide) (yr_move rfl rfl) ?_
  refine VL.r (.inl rfl) rfl (by decide) (yr_len rfl Tryd.underlying38 rfl) ?_
  refine VL.r (.inl rfl) rfl (by decide) (yr_icmp rfl (.inl rfl) rfl rfl) ?_
  refine VL.nil ?_
  refine VE.then_wp ?_
  refine V.cond rfl (fun h1 => ?_) (fun h1 => ?_)
  · skip
    replace h1 := ic_eql h1
    refine V.seq ?_
    refine V.region ?_
    refine VL.r (.inl rfl) rfl (by decide) (yr_assign rfl rfl) ?_
    refine VL.nil ?_
    refine VE.then_wp ?_
    refine V.ret ?_
    refine VE.then_ret ?_
    refine ret1 rfl rfl (fun w1 hw => ?_)
    exact ⟨⟨_, tx_mono (show tx ⟨#[110, 111, 110, 101]⟩ 4 from ⟨by decide, by decide⟩) (by first | omega | (simp only [List.length_cons, List.length_nil]; omega))⟩, rfl, hw.below, (fun _ h => by cases h), List.Pairwise.nil⟩
  · skip
    replace h1 := ic_eql' h1
    refine V.skip ?_
    refine VE.then_wp ?_
    refine V.seq ?_
    refine V.region ?_
    refine VL.r (.inl rfl) rfl (by decide) (yr_assign rfl rfl) ?_
    refine VL.nil ?_
    refine VE.then_wp ?_
    refine V.seq ?_
    refine V.seq ?_
    refine V.region ?_
    refine VL.r (.inl rfl) rfl (by decide) (yr_move rfl rfl) ?_
    refine VL.r (.inl rfl) rfl (by decide) (yr_len rfl Tryd.underlying38 rfl) ?_
    refine VL.r (.inl rfl) rfl (by decide) (yr_move (u := .int .i64 0) rfl rfl) ?_
    refine VL.nil ?_
    refine VE.then_wp ?_
    refine V.block ?_
    refine V.loopc (G := Nat × ByteArray) [(0, _), (9, _)] (fun ⟨k, s⟩ => k ≤ ps.length ∧ tx s (50 * k)) (fun ⟨k, s⟩ => []) (fun ⟨k, s⟩ => [(3, .string s), (10, .int .i64 (k : Int))]) (fun ⟨k, s⟩ => ps.length - k) (0, ⟨#[]⟩) (.cons rfl (.cons rfl .nil)) (.cons rfl (.cons rfl .nil)) ?_ ?_ ?_
    · exact (fun w hw => hw.sub (List.nil_sublist _))
    · exact (by exact ⟨Nat.zero_le _, tx_nil _⟩)
    rintro ⟨k, s⟩ ⟨hk, hI⟩
    show V _ _ _ [] ([(3, .string s), (10, .int .i64 (k : Int))] ++ [(0, _), (9, _)]) _ _
    refine V.seq ?_
    refine V.region ?_
    refine VL.r (.inl rfl) rfl (by decide) (yr_icmp rfl (.inr (.inr (.inl rfl))) rfl rfl) ?_
    refine VL.nil ?_
    refine VE.then_wp ?_
    refine V.seq ?_
    refine V.cond rfl (fun h2 => ?_) (fun h2 => ?_)
    · skip
      replace h2 := ic_lss h2
      refine V.skip ?_
      refine VE.then_wp ?_
      refine V.seq ?_
      refine V.block ?_
      refine V.seq ?_
      refine V.region ?_
      refine VL.r (.inl rfl) rfl (by decide) (yr_move rfl rfl) ?_
      refine VL.r (.inl rfl) rfl (by decide) (yr_assign rfl rfl) ?_
      refine VL.nil ?_
      refine VE.then_wp ?_
      refine V.seq ?_
      refine V.seq ?_
      refine V.region ?_
      refine VL.r (.inl rfl) rfl (by decide) (yr_move rfl rfl) ?_
      refine VL.r (.inl rfl) rfl (by decide) (yr_icmp rfl (.inr (.inr (.inr (.inr (.inl rfl))))) rfl rfl) ?_
      refine VL.nil ?_
      refine VE.then_wp ?_
      refine V.cond rfl (fun h3 => ?_) (fun h3 => ?_)
      · skip
        replace h3 := ic_gtr h3
        refine V.region ?_
        refine VL.r (.inl rfl) rfl (by decide) (yr_move rfl rfl) ?_
        refine VL.r (.inl rfl) rfl (by decide) (yr_catT rfl rfl rfl hI (show tx ⟨#[47]⟩ 1 from ⟨by decide, by decide⟩) (by first | omega | (simp only [List.length_cons, List.length_nil]; omega))) ?_
        refine VL.r (.inl rfl) rfl (by decide) (yr_assign rfl rfl) ?_
        refine VL.nil ?_
        refine VE.then_wp ?_
        refine Dr.V.drawR [(0, 5), (1, 5), (2, 5), (3, 5), (4, 5), (5, 5), (8, 5), (9, 5), (10, 5), (11, 5), (12, 5), (6, 1), (7, 5), (13, 2), (14, 1), (15, 5), (16, 5), (17, 5)] [(13, ((fun b => .slice (some ⟨b, 0, none⟩) 1 1), (fun b => ⟨some ⟨b, 0, none⟩, [.float .f32 (ps.getD k zp).2], 1, 90⟩)))] [] _ mixed_Dt (by kernel_rfl) (fun w hw => hw) ?_
        refine Dr.SW.r rfl (.inl rfl) rfl (by decide) (yr_move rfl rfl) ?_
        refine Dr.SW.r rfl (.inl rfl) rfl (by decide) (yr_move rfl rfl) ?_
        refine Dr.SW.r rfl (.inl rfl) rfl (by decide) (yr_move rfl rfl) ?_
        refine Dr.SW.p rfl (.inl rfl) rfl (by decide) (yq_idxN (k := k) rfl Tryd.underlying38 sz104_Dt rfl rfl (by first | exact Sees.root (by assumption) | exact Sees.own (by (try simp only [List.append_assoc, List.cons_append, List.nil_append]); repeat (first | exact List.mem_cons_self | exact List.mem_append_left _ (by assumption) | apply List.mem_cons_of_mem | apply List.mem_append_right)) | exact Sees.root (hR _ (by omega)) | exact Sees.own (RowsIn.mem (by (try simp only [List.append_assoc, List.cons_append, List.nil_append]); repeat (first | exact RowsIn.here | exact RowsIn.last | apply RowsIn.there | apply RowsIn.thereS)) _ (by omega)) | exact Sees.own (WRowsIn.mem (by (try simp only [List.append_assoc, List.cons_append, List.nil_append]); repeat (first | exact WRowsIn.here | exact WRowsIn.last | apply WRowsIn.there | apply WRowsIn.thereS)) _ (by omega))) (by first | rfl | omega | (push_cast; rfl) | (push_cast; omega) | exact tmod_nat _ _) (by exact pl_length _) (by decide) (by omega)) ?_
        refine Dr.SW.r rfl (.inl rfl) rfl (by decide) (show YR _ _ _ (.pointer (some (adr _ (_ + 0)))) from yr_fieldAddr rfl Tryd.underlying104 rfl rfl sz101_Dt (by decide) rfl) ?_
        refine Dr.SW.p rfl (.inl rfl) rfl (by decide) (yq_loadS (cs := vcs (ps.getD k zp).1) rfl Tryd.underlying101 sz101_Dt rfl (by first | exact Sees.root (by assumption) | exact Sees.own (by (try simp only [List.append_assoc, List.cons_append, List.nil_append]); repeat (first | exact List.mem_cons_self | exact List.mem_append_left _ (by assumption) | apply List.mem_cons_of_mem | apply List.mem_append_right)) | exact Sees.root (hR _ (by omega)) | exact Sees.own (RowsIn.mem (by (try simp only [List.append_assoc, List.cons_append, List.nil_append]); repeat (first | exact RowsIn.here | exact RowsIn.last | apply RowsIn.there | apply RowsIn.thereS)) _ (by omega)) | exact Sees.own (WRowsIn.mem (by (try simp only [List.append_assoc, List.cons_append, List.nil_append]); repeat (first | exact WRowsIn.here | exact WRowsIn.last | apply WRowsIn.there | apply WRowsIn.thereS)) _ (by omega))) (pl_at0 (by omega)) rfl rfl) ?_
        refine Dr.SW.r rfl (.inl rfl) rfl (by decide) (yr_move rfl rfl) ?_
        refine Dr.SW.r rfl (.inl rfl) rfl (by decide) (yr_move rfl rfl) ?_
        refine Dr.SW.p rfl (.inl rfl) rfl (by decide) (yq_idxN (k := k) rfl Tryd.underlying38 sz104_Dt rfl rfl (by first | exact Sees.root (by assumption) | exact Sees.own (by (try simp only [List.append_assoc, List.cons_append, List.nil_append]); repeat (first | exact List.mem_cons_self | exact List.mem_append_left _ (by assumption) | apply List.mem_cons_of_mem | apply List.mem_append_right)) | exact Sees.root (hR _ (by omega)) | exact Sees.own (RowsIn.mem (by (try simp only [List.append_assoc, List.cons_append, List.nil_append]); repeat (first | exact RowsIn.here | exact RowsIn.last | apply RowsIn.there | apply RowsIn.thereS)) _ (by omega)) | exact Sees.own (WRowsIn.mem (by (try simp only [List.append_assoc, List.cons_append, List.nil_append]); repeat (first | exact WRowsIn.here | exact WRowsIn.last | apply WRowsIn.there | apply WRowsIn.thereS)) _ (by omega))) (by first | rfl | omega | (push_cast; rfl) | (push_cast; omega) | exact tmod_nat _ _) (by exact pl_length _) (by decide) (by omega)) ?_
        refine Dr.SW.r rfl (.inl rfl) rfl (by decide) (show YR _ _ _ (.pointer (some (adr _ (_ + 3)))) from yr_fieldAddr rfl Tryd.underlying104 rfl rfl sz90_Dt (by decide) rfl) ?_
        refine Dr.SW.p rfl (.inl rfl) rfl (by decide) (yq_load (u := .float .f32 (ps.getD k zp).2) rfl fb90_Dt rfl (by first | exact Sees.root (by assumption) | exact Sees.own (by (try simp only [List.append_assoc, List.cons_append, List.nil_append]); repeat (first | exact List.mem_cons_self | exact List.mem_append_left _ (by assumption) | apply List.mem_cons_of_mem | apply List.mem_append_right)) | exact Sees.root (hR _ (by omega)) | exact Sees.own (RowsIn.mem (by (try simp only [List.append_assoc, List.cons_append, List.nil_append]); repeat (first | exact RowsIn.here | exact RowsIn.last | apply RowsIn.there | apply RowsIn.thereS)) _ (by omega)) | exact Sees.own (WRowsIn.mem (by (try simp only [List.append_assoc, List.cons_append, List.nil_append]); repeat (first | exact WRowsIn.here | exact WRowsIn.last | apply WRowsIn.there | apply WRowsIn.thereS)) _ (by omega))) (pl_at3 (by omega))) ?_
        refine Dr.SW.new rfl (.inl rfl) rfl (by decide) (yn_callf rfl known55_Dt (.cons rfl .nil) (fun w hw => (c_vtext (x1 := (ps.getD k zp).1.1) (x2 := (ps.getD k zp).1.2.1) (x3 := (ps.getD k zp).1.2.2)))) ?_
        rintro ⟨s23, hs23⟩
        dsimp only
        refine Dr.SW.r rfl (.inl rfl) rfl (by decide) (yr_catT rfl rfl rfl hs23 (show tx ⟨#[58]⟩ 1 from ⟨by decide, by decide⟩) (by first | omega | (simp only [List.length_cons, List.length_nil]; omega))) ?_
        refine Dr.SW.a rfl rfl rfl (by decide) rfl (fun w0 => (yn_lit rfl Tryd.underlying39 elt90_Dt rfl (by decide) (.cons rfl .nil) (by first | (simp; done) | (simp [cn, cn1, cn0]; done)) rfl rfl rfl)) ?_
        intro b30
        refine Dr.SW.new rfl (.inl rfl) rfl (by decide) (yn_callf rfl known64_Dt (.cons rfl .nil) (fun w hw => (c_ntext (xs := [(ps.getD k zp).2]) (by first | exact Sees.root (by assumption) w hw | exact Sees.own (by (try simp only [List.append_assoc, List.cons_append, List.nil_append]); repeat (first | exact List.mem_cons_self | exact List.mem_append_left _ (by assumption) | apply List.mem_cons_of_mem | apply List.mem_append_right)) w hw) (by first | decide | omega | (simp; done))))) ?_
        rintro ⟨s31, hs31⟩
        dsimp only
        refine Dr.SW.r rfl (.inl rfl) rfl (by decide) (yr_catT rfl rfl rfl (tx_app hs23 (show tx ⟨#[58]⟩ 1 from ⟨by decide, by decide⟩)) hs31 (by first | omega | (simp only [List.length_cons, List.length_nil]; omega))) ?_
        refine Dr.SW.r rfl (.inl rfl) rfl (by decide) (yr_catT rfl rfl rfl (tx_app hI (show tx ⟨#[47]⟩ 1 from ⟨by decide, by decide⟩)) (tx_app (tx_app hs23 (show tx ⟨#[58]⟩ 1 from ⟨by decide, by decide⟩)) hs31) (by first | omega | (simp only [List.length_cons, List.length_nil]; omega))) ?_
        refine Dr.SW.r rfl (.inl rfl) rfl (by decide) (yr_assign rfl rfl) ?_
        refine Dr.SW.done ?_
        refine Dr.eqO (by simp only [List.append_nil, List.append_assoc, List.cons_append, List.nil_append] <;> rfl) ?_
        refine VE.block_normal ?_
        refine VE.then_wp ?_
        refine V.region ?_
        refine VL.r (.inl rfl) rfl (by decide) (yr_int rfl rfl rfl (.inl ⟨rfl, wrap_in (by omega)⟩)) ?_
        refine VL.r (.inl rfl) rfl (by decide) (yr_move rfl rfl) ?_
        refine VL.nil ?_
        refine VE.round (k + 1, s ++ ⟨#[47]⟩ ++ (s23 ++ ⟨#[58]⟩ ++ s31)) ?_ ?_ ?_ ?_ ?_
        · exact (.cons rfl (.cons rfl .nil))
        · exact (.cons rfl (.cons rfl .nil))
        · exact (fun w hw => hw.sub (List.nil_sublist _))
        · exact ⟨by omega, tx_mono (tx_app (tx_app hI (show tx ⟨#[47]⟩ 1 from ⟨by decide, by decide⟩)) (tx_app (tx_app hs23 (show tx ⟨#[58]⟩ 1 from ⟨by decide, by decide⟩)) hs31)) (by first | omega | (simp only [List.length_cons, List.length_nil]; omega))⟩
        · (try dsimp only); omega
      · skip
        replace h3 := ic_gtr' h3
        refine V.skip ?_
        refine VE.then_wp ?_
        refine Dr.V.drawR [(0, 5), (1, 5), (2, 5), (3, 5), (4, 5), (5, 5), (8, 5), (9, 5), (10, 5), (11, 5), (12, 5), (6, 1), (7, 5), (13, 2), (14, 1), (15, 5), (16, 5), (17, 5)] [(13, ((fun b => .slice (some ⟨b, 0, none⟩) 1 1), (fun b => ⟨some ⟨b, 0, none⟩, [.float .f32 (ps.getD k zp).2], 1, 90⟩)))] [] _ mixed_Dt (by kernel_rfl) (fun w hw => hw) ?_
        refine Dr.SW.r rfl (.inl rfl) rfl (by decide) (yr_move rfl rfl) ?_
        refine Dr.SW.r rfl (.inl rfl) rfl (by decide) (yr_move rfl rfl) ?_
        refine Dr.SW.r rfl (.inl rfl) rfl (by decide) (yr_move rfl rfl) ?_
        refine Dr.SW.p rfl (.inl rfl) rfl (by decide) (yq_idxN (k := k) rfl Tryd.underlying38 sz104_Dt rfl rfl (by first | exact Sees.root (by assumption) | exact Sees.own (by (try simp only [List.append_assoc, List.cons_append, List.nil_append]); repeat (first | exact List.mem_cons_self | exact List.mem_append_left _ (by assumption) | apply List.mem_cons_of_mem | apply List.mem_append_right)) | exact Sees.root (hR _ (by omega)) | exact Sees.own (RowsIn.mem (by (try simp only [List.append_assoc, List.cons_append, List.nil_append]); repeat (first | exact RowsIn.here | exact RowsIn.last | apply RowsIn.there | apply RowsIn.thereS)) _ (by omega)) | exact Sees.own (WRowsIn.mem (by (try simp only [List.append_assoc, List.cons_append, List.nil_append]); repeat (first | exact WRowsIn.here | exact WRowsIn.last | apply WRowsIn.there | apply WRowsIn.thereS)) _ (by omega))) (by first | rfl | omega | (push_cast; rfl) | (push_cast; omega) | exact tmod_nat _ _) (by exact pl_length _) (by decide) (by omega)) ?_
        refine Dr.SW.r rfl (.inl rfl) rfl (by decide) (show YR _ _ _ (.pointer (some (adr _ (_ + 0)))) from yr_fieldAddr rfl Tryd.underlying104 rfl rfl sz101_Dt (by decide) rfl) ?_
        refine Dr.SW.p rfl (.inl rfl) rfl (by decide) (yq_loadS (cs := vcs (ps.getD k zp).1) rfl Tryd.underlying101 sz101_Dt rfl (by first | exact Sees.root (by assumption) | exact Sees.own (by (try simp only [List.append_assoc, List.cons_append, List.nil_append]); repeat (first | exact List.mem_cons_self | exact List.mem_append_left _ (by assumption) | apply List.mem_cons_of_mem | apply List.mem_append_right)) | exact Sees.root (hR _ (by omega)) | exact Sees.own (RowsIn.mem (by (try simp only [List.append_assoc, List.cons_append, List.nil_append]); repeat (first | exact RowsIn.here | exact RowsIn.last | apply RowsIn.there | apply RowsIn.thereS)) _ (by omega)) | exact Sees.own (WRowsIn.mem (by (try simp only [List.append_assoc, List.cons_append, List.nil_append]); repeat (first | exact WRowsIn.here | exact WRowsIn.last | apply WRowsIn.there | apply WRowsIn.thereS)) _ (by omega))) (pl_at0 (by omega)) rfl rfl) ?_
        refine Dr.SW.r rfl (.inl rfl) rfl (by decide) (yr_move rfl rfl) ?_
        refine Dr.SW.r rfl (.inl rfl) rfl (by decide) (yr_move rfl rfl) ?_
        refine Dr.SW.p rfl (.inl rfl) rfl (by decide) (yq_idxN (k := k) rfl Tryd.underlying38 sz104_Dt rfl rfl (by first | exact Sees.root (by assumption) | exact Sees.own (by (try simp only [List.append_assoc, List.cons_append, List.nil_append]); repeat (first | exact List.mem_cons_self | exact List.mem_append_left _ (by assumption) | apply List.mem_cons_of_mem | apply List.mem_append_right)) | exact Sees.root (hR _ (by omega)) | exact Sees.own (RowsIn.mem (by (try simp only [List.append_assoc, List.cons_append, List.nil_append]); repeat (first | exact RowsIn.here | exact RowsIn.last | apply RowsIn.there | apply RowsIn.thereS)) _ (by omega)) | exact Sees.own (WRowsIn.mem (by (try simp only [List.append_assoc, List.cons_append, List.nil_append]); repeat (first | exact WRowsIn.here | exact WRowsIn.last | apply WRowsIn.there | apply WRowsIn.thereS)) _ (by omega))) (by first | rfl | omega | (push_cast; rfl) | (push_cast; omega) | exact tmod_nat _ _) (by exact pl_length _) (by decide) (by omega)) ?_
        refine Dr.SW.r rfl (.inl rfl) rfl (by decide) (show YR _ _ _ (.pointer (some (adr _ (_ + 3)))) from yr_fieldAddr rfl Tryd.underlying104 rfl rfl sz90_Dt (by decide) rfl) ?_
        refine Dr.SW.p rfl (.inl rfl) rfl (by decide) (yq_load (u := .float .f32 (ps.getD k zp).2) rfl fb90_Dt rfl (by first | exact Sees.root (by assumption) | exact Sees.own (by (try simp only [List.append_assoc, List.cons_append, List.nil_append]); repeat (first | exact List.mem_cons_self | exact List.mem_append_left _ (by assumption) | apply List.mem_cons_of_mem | apply List.mem_append_right)) | exact Sees.root (hR _ (by omega)) | exact Sees.own (RowsIn.mem (by (try simp only [List.append_assoc, List.cons_append, List.nil_append]); repeat (first | exact RowsIn.here | exact RowsIn.last | apply RowsIn.there | apply RowsIn.thereS)) _ (by omega)) | exact Sees.own (WRowsIn.mem (by (try simp only [List.append_assoc, List.cons_append, List.nil_append]); repeat (first | exact WRowsIn.here | exact WRowsIn.last | apply WRowsIn.there | apply WRowsIn.thereS)) _ (by omega))) (pl_at3 (by omega))) ?_
        refine Dr.SW.new rfl (.inl rfl) rfl (by decide) (yn_callf rfl known55_Dt (.cons rfl .nil) (fun w hw => (c_vtext (x1 := (ps.getD k zp).1.1) (x2 := (ps.getD k zp).1.2.1) (x3 := (ps.getD k zp).1.2.2)))) ?_
        rintro ⟨s23, hs23⟩
        dsimp only
        refine Dr.SW.r rfl (.inl rfl) rfl (by decide) (yr_catT rfl rfl rfl hs23 (show tx ⟨#[58]⟩ 1 from ⟨by decide, by decide⟩) (by first | omega | (simp only [List.length_cons, List.length_nil]; omega))) ?_
        refine Dr.SW.a rfl rfl rfl (by decide) rfl (fun w0 => (yn_lit rfl Tryd.underlying39 elt90_Dt rfl (by decide) (.cons rfl .nil) (by first | (simp; done) | (simp [cn, cn1, cn0]; done)) rfl rfl rfl)) ?_
        intro b30
        refine Dr.SW.new rfl (.inl rfl) rfl (by decide) (yn_callf rfl known64_Dt (.cons rfl .nil) (fun w hw => (c_ntext (xs := [(ps.getD k zp).2]) (by first | exact Sees.root (by assumption) w hw | exact Sees.own (by (try simp only [List.append_assoc, List.cons_append, List.nil_append]); repeat (first | exact List.mem_cons_self | exact List.mem_append_left _ (by assumption) | apply List.mem_cons_of_mem | apply List.mem_append_right)) w hw) (by first | decide | omega | (simp; done))))) ?_
        rintro ⟨s31, hs31⟩
        dsimp only
        refine Dr.SW.r rfl (.inl rfl) rfl (by decide) (yr_catT rfl rfl rfl (tx_app hs23 (show tx ⟨#[58]⟩ 1 from ⟨by decide, by decide⟩)) hs31 (by first | omega | (simp only [List.length_cons, List.length_nil]; omega))) ?_
        refine Dr.SW.r rfl (.inl rfl) rfl (by decide) (yr_catT rfl rfl rfl hI (tx_app (tx_app hs23 (show tx ⟨#[58]⟩ 1 from ⟨by decide, by decide⟩)) hs31) (by first | omega | (simp only [List.length_cons, List.length_nil]; omega))) ?_
        refine Dr.SW.r rfl (.inl rfl) rfl (by decide) (yr_assign rfl rfl) ?_
        refine Dr.SW.done ?_
        refine Dr.eqO (by simp only [List.append_nil, List.append_assoc, List.cons_append, List.nil_append] <;> rfl) ?_
        refine VE.block_normal ?_
        refine VE.then_wp ?_
        refine V.region ?_
        refine VL.r (.inl rfl) rfl (by decide) (yr_int rfl rfl rfl (.inl ⟨rfl, wrap_in (by omega)⟩)) ?_
        refine VL.r (.inl rfl) rfl (by decide) (yr_move rfl rfl) ?_
        refine VL.nil ?_
        refine VE.round (k + 1, s ++ (s23 ++ ⟨#[58]⟩ ++ s31)) ?_ ?_ ?_ ?_ ?_
        · exact (.cons rfl (.cons rfl .nil))
        · exact (.cons rfl (.cons rfl .nil))
        · exact (fun w hw => hw.sub (List.nil_sublist _))
        · exact ⟨by omega, tx_mono (tx_app hI (tx_app (tx_app hs23 (show tx ⟨#[58]⟩ 1 from ⟨by decide, by decide⟩)) hs31)) (by first | omega | (simp only [List.length_cons, List.length_nil]; omega))⟩
        · (try dsimp only); omega
    · skip
      replace h2 := ic_lss' h2
      refine V.exit ?_
      refine VE.then_exit ?_
      refine VE.then_exit ?_
      refine VE.block_here ?_
      refine VE.then_wp ?_
      refine V.seq ?_
      refine V.region ?_
      refine VL.r (.inl rfl) rfl (by decide) (yr_move rfl rfl) ?_
      refine VL.r (.inl rfl) rfl (by decide) (yr_assign rfl rfl) ?_
      refine VL.nil ?_
      refine VE.then_wp ?_
      refine V.ret ?_
      refine ret1 rfl rfl (fun w1 hw => ?_)
      exact ⟨⟨_, tx_mono hI (by first | omega | (simp only [List.length_cons, List.length_nil]; omega))⟩, rfl, hw.below, (fun _ h => by cases h), List.Pairwise.nil⟩

theorem c_circT {w : World} {q a1 a2 a3 : Option Addr} {c1 c2 c3 : Nat} {xs ys zs : List Nat} (hQ : Cl w q [.slice a1 xs.length c1, .slice a2 ys.length c2, .slice a3 zs.length c3]) (h1 : Cl w a1 (fl xs)) (h2 : Cl w a2 (fl ys)) (h3 : Cl w a3 (fl zs)) (n1 : xs.length ≤ 20) (n2 : ys.length ≤ 20) (n3 : zs.length ≤ 20) : New Tryd.prog 60 [.pointer (some (adr q 0))] w (fun x : {s : ByteArray // tx s (9 * (xs.length + ys.length + zs.length) + 20)} => .string x.1) (fun _ => []) := by
  refine New.enter Tryd.func60 rfl Tryd.ntmps60 (Nat.le_of_ble_eq_true rfl) ?_
  refine V.seq ?_
  refine V.region ?_
  refine VL.r (.inl rfl) rfl (by decide) (yr_assign rfl rfl) ?_
  refine VL.nil ?_
  refine VE.then_wp ?_
  refine V.seq ?_
  refine V.draw [(0, 0), (1, 0), (2, 0), (3, 0), (6, 0), (7, 0), (8, 0), (9, 0), (13, 0), (14, 0), (15, 0), (16, 0), (4, 1), (5, 0), (10, 1), (11, 0), (12, 0), (17, 1), (18, 0), (19, 0)] mixed_Dt (by kernel_rfl) (by intro j o hj; simp at hj) ?_
  refine SW.r rfl (.inl rfl) rfl (by decide) (yr_move rfl rfl) ?_
  refine SW.r rfl (.inl rfl) rfl (by decide) (yr_nilCheck rfl rfl) ?_
  refine SW.r rfl (.inl rfl) rfl (by decide) (yr_fieldAddr rfl Tryd.underlying41 rfl rfl sz39_Dt (by decide) rfl) ?_
  refine SW.q rfl (.inl rfl) rfl (by decide) (yq_load rfl fb39_Dt rfl (by first | exact Sees.root (by assumption) | exact Sees.own (by repeat (first | exact List.mem_cons_self | exact List.mem_append_left _ (by assumption) | apply List.mem_cons_of_mem | apply List.mem_append_right)) | exact Sees.root (hR _ (by omega)) | exact Sees.own (RowsIn.mem (by repeat (first | exact RowsIn.here | exact RowsIn.last | apply RowsIn.there | apply RowsIn.thereS)) _ (by omega)) | exact Sees.own (WRowsIn.mem (by repeat (first | exact WRowsIn.here | exact WRowsIn.last | apply WRowsIn.there | apply WRowsIn.thereS)) _ (by omega))) rfl) ?_
  refine SW.r rfl (.inl rfl) rfl (by decide) (yr_move rfl rfl) ?_
  refine SW.r rfl (.inl rfl) rfl (by decide) (yr_nilCheck rfl rfl) ?_
  refine SW.r rfl (.inl rfl) rfl (by decide) (yr_fieldAddr rfl Tryd.underlying41 rfl rfl sz39_Dt (by decide) rfl) ?_
  refine SW.q rfl (.inl rfl) rfl (by decide) (yq_load rfl fb39_Dt rfl (by first | exact Sees.root (by assumption) | exact Sees.own (by repeat (first | exact List.mem_cons_self | exact List.mem_append_left _ (by assumption) | apply List.mem_cons_of_mem | apply List.mem_append_right)) | exact Sees.root (hR _ (by omega)) | exact Sees.own (RowsIn.mem (by repeat (first | exact RowsIn.here | exact RowsIn.last | apply RowsIn.there | apply RowsIn.thereS)) _ (by omega)) | exact Sees.own (WRowsIn.mem (by repeat (first | exact WRowsIn.here | exact WRowsIn.last | apply WRowsIn.there | apply WRowsIn.thereS)) _ (by omega))) rfl) ?_
  refine SW.r rfl (.inl rfl) rfl (by decide) (yr_move rfl rfl) ?_
  refine SW.r rfl (.inl rfl) rfl (by decide) (yr_nilCheck rfl rfl) ?_
  refine SW.r rfl (.inl rfl) rfl (by decide) (yr_fieldAddr rfl Tryd.underlying41 rfl rfl sz39_Dt (by decide) rfl) ?_
  refine SW.q rfl (.inl rfl) rfl (by decide) (yq_load rfl fb39_Dt rfl (by first | exact Sees.root (by assumption) | exact Sees.own (by repeat (first | exact List.mem_cons_self | exact List.mem_append_left _ (by assumption) | apply List.mem_cons_of_mem | apply List.mem_append_right)) | exact Sees.root (hR _ (by omega)) | exact Sees.own (RowsIn.mem (by repeat (first | exact RowsIn.here | exact RowsIn.last | apply RowsIn.there | apply RowsIn.thereS)) _ (by omega)) | exact Sees.own (WRowsIn.mem (by repeat (first | exact WRowsIn.here | exact WRowsIn.last | apply WRowsIn.there | apply WRowsIn.thereS)) _ (by omega))) rfl) ?_
  refine SW.new rfl (.inl rfl) rfl (by decide) (yn_callf rfl known64_Dt (.cons rfl .nil) (fun w hw => (c_ntext (xs := xs) (by first | exact Sees.root (by assumption) w hw | exact Sees.own (by repeat (first | exact List.mem_cons_self | exact List.mem_append_left _ (by assumption) | apply List.mem_cons_of_mem | apply List.mem_append_right)) w hw) (by first | decide | omega | (simp; done))))) ?_
  rintro ⟨s7, hs7⟩
  dsimp only
  refine SW.r rfl (.inl rfl) rfl (by decide) (yr_catT rfl rfl rfl hs7 (show tx ⟨#[59]⟩ 1 from ⟨by decide, by decide⟩) (by first | omega | (simp only [List.length_cons, List.length_nil]; omega))) ?_
  refine SW.new rfl (.inl rfl) rfl (by decide) (yn_callf rfl known64_Dt (.cons rfl .nil) (fun w hw => (c_ntext (xs := ys) (by first | exact Sees.root (by assumption) w hw | exact Sees.own (by repeat (first | exact List.mem_cons_self | exact List.mem_append_left _ (by assumption) | apply List.mem_cons_of_mem | apply List.mem_append_right)) w hw) (by first | decide | omega | (simp; done))))) ?_
  rintro ⟨s13, hs13⟩
  dsimp only
  refine SW.r rfl (.inl rfl) rfl (by decide) (yr_catT rfl rfl rfl (tx_app hs7 (show tx ⟨#[59]⟩ 1 from ⟨by decide, by decide⟩)) hs13 (by first | omega | (simp only [List.length_cons, List.length_nil]; omega))) ?_
  refine SW.r rfl (.inl rfl) rfl (by decide) (yr_catT rfl rfl rfl (tx_app (tx_app hs7 (show tx ⟨#[59]⟩ 1 from ⟨by decide, by decide⟩)) hs13) (show tx ⟨#[59]⟩ 1 from ⟨by decide, by decide⟩) (by first | omega | (simp only [List.length_cons, List.length_nil]; omega))) ?_
  refine SW.new rfl (.inl rfl) rfl (by decide) (yn_callf rfl known64_Dt (.cons rfl .nil) (fun w hw => (c_ntext (xs := zs) (by first | exact Sees.root (by assumption) w hw | exact Sees.own (by repeat (first | exact List.mem_cons_self | exact List.mem_append_left _ (by assumption) | apply List.mem_cons_of_mem | apply List.mem_append_right)) w hw) (by first | decide | omega | (simp; done))))) ?_
  rintro ⟨s20, hs20⟩
  dsimp only
  refine SW.r rfl (.inl rfl) rfl (by decide) (yr_catT rfl rfl rfl (tx_app (tx_app (tx_app hs7 (show tx ⟨#[59]⟩ 1 from ⟨by decide, by decide⟩)) hs13) (show tx ⟨#[59]⟩ 1 from ⟨by decide, by decide⟩)) hs20 (by first | omega | (simp only [List.length_cons, List.length_nil]; omega))) ?_
  refine SW.r rfl (.inl rfl) rfl (by decide) (yr_assign rfl rfl) ?_
  refine SW.done ?_
  refine VE.then_wp ?_
  refine V.ret ?_
  refine ret1 rfl rfl (fun w1 hw => ?_)
  exact ⟨⟨_, tx_mono (tx_app (tx_app (tx_app (tx_app hs7 (show tx ⟨#[59]⟩ 1 from ⟨by decide, by decide⟩)) hs13) (show tx ⟨#[59]⟩ 1 from ⟨by decide, by decide⟩)) hs20) (by first | omega | (simp only [List.length_cons, List.length_nil]; omega))⟩, rfl, hw.below, (fun _ h => by cases h), List.Pairwise.nil⟩

theorem c_designT {w : World} {q ah aw ag : Option Addr} {ch cw cg : Nat} {f : Nat → Option Addr × Nat} {xss : List (List Nat)} {ws gs : List Nat} (hQ : Cl w q [.slice ah xss.length ch, .slice aw ws.length cw, .slice ag gs.length cg]) (hH : Cl w ah (hd f xss)) (hR : Rws w f xss) (hW : Cl w aw (fl ws)) (hG : Cl w ag (fl gs)) (n1 : xss.length ≤ 20) (n2 : ws.length ≤ 20) (n3 : gs.length ≤ 20) (hr : ∀ i, i < xss.length → (xss.getD i []).length ≤ 5) : New Tryd.prog 62 [.pointer (some (adr q 0))] w (fun x : {s : ByteArray // tx s (9 * (ws.length + gs.length) + 60 * xss.length + 20)} => .string x.1) (fun _ => []) := by
  refine New.enter Tryd.func62 rfl Tryd.ntmps62 (Nat.le_of_ble_eq_true rfl) ?_
  refine V.seq ?_
  refine V.region ?_
  refine VL.r (.inl rfl) rfl (by decide) (yr_assign rfl rfl) ?_
  refine VL.nil ?_
  refine VE.then_wp ?_
  refine V.seq ?_
  refine V.draw [(0, 0), (1, 0), (2, 0), (3, 0), (6, 0), (7, 0), (8, 0), (9, 0), (4, 1), (5, 0), (10, 1), (11, 0), (12, 0), (13, 0)] mixed_Dt (by kernel_rfl) (by intro j o hj; simp at hj) ?_
  refine SW.r rfl (.inl rfl) rfl (by decide) (yr_move rfl rfl) ?_
  refine SW.r rfl (.inl rfl) rfl (by decide) (yr_nilCheck rfl rfl) ?_
  refine SW.r rfl (.inl rfl) rfl (by decide) (yr_fieldAddr rfl Tryd.underlying112 rfl rfl sz39_Dt (by decide) rfl) ?_
  refine SW.q rfl (.inl rfl) rfl (by decide) (yq_load rfl fb39_Dt rfl (by first | exact Sees.root (by assumption) | exact Sees.own (by repeat (first | exact List.mem_cons_self | exact List.mem_append_left _ (by assumption) | apply List.mem_cons_of_mem | apply List.mem_append_right)) | exact Sees.root (hR _ (by omega)) | exact Sees.own (RowsIn.mem (by repeat (first | exact RowsIn.here | exact RowsIn.last | apply RowsIn.there | apply RowsIn.thereS)) _ (by omega)) | exact Sees.own (WRowsIn.mem (by repeat (first | exact WRowsIn.here | exact WRowsIn.last | apply WRowsIn.there | apply WRowsIn.thereS)) _ (by omega))) rfl) ?_
  refine SW.r rfl (.inl rfl) rfl (by decide) (yr_move rfl rfl) ?_
  refine SW.r rfl (.inl rfl) rfl (by decide) (yr_nilCheck rfl rfl) ?_
  refine SW.r rfl (.inl rfl) rfl (by decide) (yr_fieldAddr rfl Tryd.underlying112 rfl rfl sz39_Dt (by decide) rfl) ?_
  refine SW.q rfl (.inl rfl) rfl (by decide) (yq_load rfl fb39_Dt rfl (by first | exact Sees.root (by assumption) | exact Sees.own (by repeat (first | exact List.mem_cons_self | exact List.mem_append_left _ (by assumption) | apply List.mem_cons_of_mem | apply List.mem_append_right)) | exact Sees.root (hR _ (by omega)) | exact Sees.own (RowsIn.mem (by repeat (first | exact RowsIn.here | exact RowsIn.last | apply RowsIn.there | apply RowsIn.thereS)) _ (by omega)) | exact Sees.own (WRowsIn.mem (by repeat (first | exact WRowsIn.here | exact WRowsIn.last | apply WRowsIn.there | apply WRowsIn.thereS)) _ (by omega))) rfl) ?_
  refine SW.new rfl (.inl rfl) rfl (by decide) (yn_callf rfl known64_Dt (.cons rfl .nil) (fun w hw => (c_ntext (xs := ws) (by first | exact Sees.root (by assumption) w hw | exact Sees.own (by repeat (first | exact List.mem_cons_self | exact List.mem_append_left _ (by assumption) | apply List.mem_cons_of_mem | apply List.mem_append_right)) w hw) (by first | decide | omega | (simp; done))))) ?_
  rintro ⟨s9, hs9⟩
  dsimp only
  refine SW.r rfl (.inl rfl) rfl (by decide) (yr_catT rfl rfl rfl hs9 (show tx ⟨#[59]⟩ 1 from ⟨by decide, by decide⟩) (by first | omega | (have hrk := hr k (by omega); omega))) ?_
  refine SW.new rfl (.inl rfl) rfl (by decide) (yn_callf rfl known64_Dt (.cons rfl .nil) (fun w hw => (c_ntext (xs := gs) (by first | exact Sees.root (by assumption) w hw | exact Sees.own (by repeat (first | exact List.mem_cons_self | exact List.mem_append_left _ (by assumption) | apply List.mem_cons_of_mem | apply List.mem_append_right)) w hw) (by first | decide | omega | (simp; done))))) ?_
  rintro ⟨s15, hs15⟩
  dsimp only
  refine SW.r rfl (.inl rfl) rfl (by decide) (yr_catT rfl rfl rfl (tx_app hs9 (show tx ⟨#[59]⟩ 1 from ⟨by decide, by decide⟩)) hs15 (by first | omega | (have hrk := hr k (by omega); omega))) ?_
  refine SW.r rfl (.inl rfl) rfl (by decide) (yr_catT rfl rfl rfl (tx_app (tx_app hs9 (show tx ⟨#[59]⟩ 1 from ⟨by decide, by decide⟩)) hs15) (show tx ⟨#[59]⟩ 1 from ⟨by decide, by decide⟩) (by first | omega | (have hrk := hr k (by omega); omega))) ?_
  refine SW.r rfl (.inl rfl) rfl (by decide) (yr_assign rfl rfl) ?_
  refine SW.done ?_
  refine VE.then_wp ?_
  refine V.seq ?_
  refine V.seq ?_
  refine V.region ?_
  refine VL.r (.inl rfl) rfl (by decide) (yr_move rfl rfl) ?_
  refine VL.r (.inl rfl) rfl (by decide) (yr_nilCheck rfl rfl) ?_
  refine VL.r (.inl rfl) rfl (by decide) (yr_fieldAddr rfl Tryd.underlying112 rfl rfl sz110_Dt (by decide) rfl) ?_
  refine VL.q (.inl rfl) rfl (by decide) (yq_load rfl fb110_Dt rfl (by first | exact Sees.root (by assumption) | exact Sees.own (by repeat (first | exact List.mem_cons_self | exact List.mem_append_left _ (by assumption) | apply List.mem_cons_of_mem | apply List.mem_append_right)) | exact Sees.root (hR _ (by omega)) | exact Sees.own (RowsIn.mem (by repeat (first | exact RowsIn.here | exact RowsIn.last | apply RowsIn.there | apply RowsIn.thereS)) _ (by omega)) | exact Sees.own (WRowsIn.mem (by repeat (first | exact WRowsIn.here | exact WRowsIn.last | apply WRowsIn.there | apply WRowsIn.thereS)) _ (by omega))) rfl) ?_
  refine VL.r (.inl rfl) rfl (by decide) (yr_len rfl Tryd.underlying110 rfl) ?_
  refine VL.r (.inl rfl) rfl (by decide) (yr_move (u := .int .i64 0) rfl rfl) ?_
  refine VL.nil ?_
  refine VE.then_wp ?_
  refine V.block ?_
  refine V.loopc (G := Nat × ByteArray) [(0, _), (22, _)] (fun ⟨k, s⟩ => k ≤ xss.length ∧ tx s (9 * (ws.length + gs.length) + 10 + 50 * k)) (fun ⟨k, s⟩ => []) (fun ⟨k, s⟩ => [(3, .string s), (23, .int .i64 (k : Int))]) (fun ⟨k, s⟩ => xss.length - k) (0, (s9 ++ ⟨#[59]⟩ ++ s15 ++ ⟨#[59]⟩)) (.cons rfl (.cons rfl .nil)) (.cons rfl (.cons rfl .nil)) ?_ ?_ ?_
  · exact (fun w hw => hw.sub (List.nil_sublist _))
  · exact (by exact ⟨Nat.zero_le _, tx_mono (tx_app (tx_app (tx_app hs9 (show tx ⟨#[59]⟩ 1 from ⟨by decide, by decide⟩)) hs15) (show tx ⟨#[59]⟩ 1 from ⟨by decide, by decide⟩)) (by omega)⟩)
  rintro ⟨k, s⟩ ⟨hk, hI⟩
  show V _ _ _ [] ([(3, .string s), (23, .int .i64 (k : Int))] ++ [(0, _), (22, _)]) _ _
  refine V.seq ?_
  refine V.region ?_
  refine VL.r (.inl rfl) rfl (by decide) (yr_icmp rfl (.inr (.inr (.inl rfl))) rfl rfl) ?_
  refine VL.nil ?_
  refine VE.then_wp ?_
  refine V.seq ?_
  refine V.cond rfl (fun h1 => ?_) (fun h1 => ?_)
  · skip
    replace h1 := ic_lss h1
    refine V.skip ?_
    refine VE.then_wp ?_
    refine V.seq ?_
    refine V.block ?_
    refine V.seq ?_
    refine V.region ?_
    refine VL.r (.inl rfl) rfl (by decide) (yr_move rfl rfl) ?_
    refine VL.r (.inl rfl) rfl (by decide) (yr_assign rfl rfl) ?_
    refine VL.nil ?_
    refine VE.then_wp ?_
    refine V.seq ?_
    refine V.seq ?_
    refine V.region ?_
    refine VL.r (.inl rfl) rfl (by decide) (yr_move rfl rfl) ?_
    refine VL.r (.inl rfl) rfl (by decide) (yr_icmp rfl (.inr (.inr (.inr (.inr (.inl rfl))))) rfl rfl) ?_
    refine VL.nil ?_
    refine VE.then_wp ?_
    refine V.cond rfl (fun h2 => ?_) (fun h2 => ?_)
    · skip
      replace h2 := ic_gtr h2
      refine V.region ?_
      refine VL.r (.inl rfl) rfl (by decide) (yr_move rfl rfl) ?_
      refine VL.r (.inl rfl) rfl (by decide) (yr_catT rfl rfl rfl hI (show tx ⟨#[47]⟩ 1 from ⟨by decide, by decide⟩) (by first | omega | (have hrk := hr k (by omega); omega))) ?_
      refine VL.r (.inl rfl) rfl (by decide) (yr_assign rfl rfl) ?_
      refine VL.nil ?_
      refine VE.then_wp ?_
      refine V.region ?_
      refine VL.r (.inl rfl) rfl (by decide) (yr_move rfl rfl) ?_
      refine VL.r (.inl rfl) rfl (by decide) (yr_move rfl rfl) ?_
      refine VL.r (.inl rfl) rfl (by decide) (yr_nilCheck rfl rfl) ?_
      refine VL.r (.inl rfl) rfl (by decide) (yr_fieldAddr rfl Tryd.underlying112 rfl rfl sz110_Dt (by decide) rfl) ?_
      refine VL.q (.inl rfl) rfl (by decide) (yq_load rfl fb110_Dt rfl (by first | exact Sees.root (by assumption) | exact Sees.own (by repeat (first | exact List.mem_cons_self | exact List.mem_append_left _ (by assumption) | apply List.mem_cons_of_mem | apply List.mem_append_right)) | exact Sees.root (hR _ (by omega)) | exact Sees.own (RowsIn.mem (by repeat (first | exact RowsIn.here | exact RowsIn.last | apply RowsIn.there | apply RowsIn.thereS)) _ (by omega)) | exact Sees.own (WRowsIn.mem (by repeat (first | exact WRowsIn.here | exact WRowsIn.last | apply WRowsIn.there | apply WRowsIn.thereS)) _ (by omega))) rfl) ?_
      refine VL.r (.inl rfl) rfl (by decide) (yr_move rfl rfl) ?_
      refine VL.q (.inl rfl) rfl (by decide) (yq_idx (k := k) rfl Tryd.underlying110 sz39_Dt rfl rfl (by first | exact Sees.root (by assumption) | exact Sees.own (by repeat (first | exact List.mem_cons_self | exact List.mem_append_left _ (by assumption) | apply List.mem_cons_of_mem | apply List.mem_append_right)) | exact Sees.root (hR _ (by omega)) | exact Sees.own (RowsIn.mem (by repeat (first | exact RowsIn.here | exact RowsIn.last | apply RowsIn.there | apply RowsIn.thereS)) _ (by omega)) | exact Sees.own (WRowsIn.mem (by repeat (first | exact WRowsIn.here | exact WRowsIn.last | apply WRowsIn.there | apply WRowsIn.thereS)) _ (by omega))) (by first | rfl | omega | (push_cast; rfl) | (push_cast; omega) | exact tmod_nat _ _) (by first | exact fl_length _ | exact hd_length _ _ | simp) (by omega)) ?_
      refine VL.q (.inl rfl) rfl (by decide) (yq_loadH rfl fb39_Dt rfl (by first | exact Sees.root (by assumption) | exact Sees.own (by repeat (first | exact List.mem_cons_self | exact List.mem_append_left _ (by assumption) | apply List.mem_cons_of_mem | apply List.mem_append_right)) | exact Sees.root (hR _ (by omega)) | exact Sees.own (RowsIn.mem (by repeat (first | exact RowsIn.here | exact RowsIn.last | apply RowsIn.there | apply RowsIn.thereS)) _ (by omega)) | exact Sees.own (WRowsIn.mem (by repeat (first | exact WRowsIn.here | exact WRowsIn.last | apply WRowsIn.there | apply WRowsIn.thereS)) _ (by omega))) (by omega)) ?_
      refine VL.new (.inl rfl) rfl (by decide) (yn_callf rfl known64_Dt (.cons rfl .nil) (fun w hw => (c_ntext (hR.root hw k (by omega)) (by have := hr k (by omega); omega)))) ?_
      rintro ⟨s38, hs38⟩
      dsimp only
      refine VL.r (.inl rfl) rfl (by decide) (yr_catT rfl rfl rfl (tx_app hI (show tx ⟨#[47]⟩ 1 from ⟨by decide, by decide⟩)) hs38 (by first | omega | (have hrk := hr k (by omega); omega))) ?_
      refine VL.r (.inl rfl) rfl (by decide) (yr_assign rfl rfl) ?_
      refine VL.nil ?_
      refine VE.block_normal ?_
      refine VE.then_wp ?_
      refine V.region ?_
      refine VL.r (.inl rfl) rfl (by decide) (yr_int rfl rfl rfl (.inl ⟨rfl, wrap_in (by omega)⟩)) ?_
      refine VL.r (.inl rfl) rfl (by decide) (yr_move rfl rfl) ?_
      refine VL.nil ?_
      refine VE.round (k + 1, s ++ ⟨#[47]⟩ ++ s38) ?_ ?_ ?_ ?_ ?_
      · exact (.cons rfl (.cons rfl .nil))
      · exact (.cons rfl (.cons rfl .nil))
      · exact (fun w hw => hw.sub (List.nil_sublist _))
      · have hrk := hr k (by omega)
        exact ⟨by omega, tx_mono (tx_app (tx_app hI (show tx ⟨#[47]⟩ 1 from ⟨by decide, by decide⟩)) hs38) (by first | omega | (simp only [List.length_cons, List.length_nil]; omega))⟩
      · (try dsimp only); omega
    · skip
      replace h2 := ic_gtr' h2
      refine V.skip ?_
      refine VE.then_wp ?_
      refine V.region ?_
      refine VL.r (.inl rfl) rfl (by decide) (yr_move rfl rfl) ?_
      refine VL.r (.inl rfl) rfl (by decide) (yr_move rfl rfl) ?_
      refine VL.r (.inl rfl) rfl (by decide) (yr_nilCheck rfl rfl) ?_
      refine VL.r (.inl rfl) rfl (by decide) (yr_fieldAddr rfl Tryd.underlying112 rfl rfl sz110_Dt (by decide) rfl) ?_
      refine VL.q (.inl rfl) rfl (by decide) (yq_load rfl fb110_Dt rfl (by first | exact Sees.root (by assumption) | exact Sees.own (by repeat (first | exact List.mem_cons_self | exact List.mem_append_left _ (by assumption) | apply List.mem_cons_of_mem | apply List.mem_append_right)) | exact Sees.root (hR _ (by omega)) | exact Sees.own (RowsIn.mem (by repeat (first | exact RowsIn.here | exact RowsIn.last | apply RowsIn.there | apply RowsIn.thereS)) _ (by omega)) | exact Sees.own (WRowsIn.mem (by repeat (first | exact WRowsIn.here | exact WRowsIn.last | apply WRowsIn.there | apply WRowsIn.thereS)) _ (by omega))) rfl) ?_
      refine VL.r (.inl rfl) rfl (by decide) (yr_move rfl rfl) ?_
      refine VL.q (.inl rfl) rfl (by decide) (yq_idx (k := k) rfl Tryd.underlying110 sz39_Dt rfl rfl (by first | exact Sees.root (by assumption) | exact Sees.own (by repeat (first | exact List.mem_cons_self | exact List.mem_append_left _ (by assumption) | apply List.mem_cons_of_mem | apply List.mem_append_right)) | exact Sees.root (hR _ (by omega)) | exact Sees.own (RowsIn.mem (by repeat (first | exact RowsIn.here | exact RowsIn.last | apply RowsIn.there | apply RowsIn.thereS)) _ (by omega)) | exact Sees.own (WRowsIn.mem (by repeat (first | exact WRowsIn.here | exact WRowsIn.last | apply WRowsIn.there | apply WRowsIn.thereS)) _ (by omega))) (by first | rfl | omega | (push_cast; rfl) | (push_cast; omega) | exact tmod_nat _ _) (by first | exact fl_length _ | exact hd_length _ _ | simp) (by omega)) ?_
      refine VL.q (.inl rfl) rfl (by decide) (yq_loadH rfl fb39_Dt rfl (by first | exact Sees.root (by assumption) | exact Sees.own (by repeat (first | exact List.mem_cons_self | exact List.mem_append_left _ (by assumption) | apply List.mem_cons_of_mem | apply List.mem_append_right)) | exact Sees.root (hR _ (by omega)) | exact Sees.own (RowsIn.mem (by repeat (first | exact RowsIn.here | exact RowsIn.last | apply RowsIn.there | apply RowsIn.thereS)) _ (by omega)) | exact Sees.own (WRowsIn.mem (by repeat (first | exact WRowsIn.here | exact WRowsIn.last | apply WRowsIn.there | apply WRowsIn.thereS)) _ (by omega))) (by omega)) ?_
      refine VL.new (.inl rfl) rfl (by decide) (yn_callf rfl known64_Dt (.cons rfl .nil) (fun w hw => (c_ntext (hR.root hw k (by omega)) (by have := hr k (by omega); omega)))) ?_
      rintro ⟨s38, hs38⟩
      dsimp only
      refine VL.r (.inl rfl) rfl (by decide) (yr_catT rfl rfl rfl hI hs38 (by first | omega | (have hrk := hr k (by omega); omega))) ?_
      refine VL.r (.inl rfl) rfl (by decide) (yr_assign rfl rfl) ?_
      refine VL.nil ?_
      refine VE.block_normal ?_
      refine VE.then_wp ?_
      refine V.region ?_
      refine VL.r (.inl rfl) rfl (by decide) (yr_int rfl rfl rfl (.inl ⟨rfl, wrap_in (by omega)⟩)) ?_
      refine VL.r (.inl rfl) rfl (by decide) (yr_move rfl rfl) ?_
      refine VL.nil ?_
      refine VE.round (k + 1, s ++ s38) ?_ ?_ ?_ ?_ ?_
      · exact (.cons rfl (.cons rfl .nil))
      · exact (.cons rfl (.cons rfl .nil))
      · exact (fun w hw => hw.sub (List.nil_sublist _))
      · have hrk := hr k (by omega)
        exact ⟨by omega, tx_mono (tx_app hI hs38) (by first | omega | (simp only [List.length_cons, List.length_nil]; omega))⟩
      · (try dsimp only); omega
  · skip
    replace h1 := ic_lss' h1
    refine V.exit ?_
    refine VE.then_exit ?_
    refine VE.then_exit ?_
    refine VE.block_here ?_
    refine VE.then_wp ?_
    refine V.seq ?_
    refine V.region ?_
    refine VL.r (.inl rfl) rfl (by decide) (yr_move rfl rfl) ?_
    refine VL.r (.inl rfl) rfl (by decide) (yr_assign rfl rfl) ?_
    refine VL.nil ?_
    refine VE.then_wp ?_
    refine V.ret ?_
    refine ret1 rfl rfl (fun w1 hw => ?_)
    exact ⟨⟨_, tx_mono hI (by first | omega | (simp only [List.length_cons, List.length_nil]; omega))⟩, rfl, hw.below, (fun _ h => by cases h), List.Pairwise.nil⟩

end Go.Proofs.YtmecikeaogjmpaaDoor

