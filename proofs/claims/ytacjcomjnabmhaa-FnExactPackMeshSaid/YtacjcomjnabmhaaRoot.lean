/- The square root of a 32-bit number is never too great for one. -/
import Derived.Test.YtacjcomjnabmhaaNar
namespace Go.Proofs.Ytacjcomjnabmhaa

theorem rootFrom_lt (n : Nat) : ∀ (todo root : Nat), Ieee.Datum.rootFrom n todo root < root + 2 ^ todo
  | 0, root => by simp [Ieee.Datum.rootFrom]
  | todo + 1, root => by
    have h1 := rootFrom_lt n todo (root + 1 <<< todo)
    have h2 := rootFrom_lt n todo root
    simp only [Ieee.Datum.rootFrom]
    rw [Nat.shiftLeft_eq, Nat.one_mul] at h1 ⊢
    rw [Nat.pow_succ]
    split <;> omega
theorem fover_sqrt (y : Nat) : fover .f64 .f32 (fsqrt (up y)) = false := by
  have hq : fover .f64 .f32 (qn .f64) = false := by decide
  cases hd : FloatKind.f32.decode y with
  | nan s f =>
    have hn : fnan .f32 y = true := by unfold fnan; rw [hd]; rfl
    rw [up_nan hn]
    decide
  | infinity s =>
    have hu : up y = Ieee.double.word s Ieee.double.infRung := by
      unfold up fconv; rw [if_neg (by decide), hd]; rfl
    rw [hu]
    cases s <;> decide
  | number s m e =>
    obtain ⟨g1, g2, g3⟩ := read32 hd
    have hu : up y = FloatKind.f64.encode (.number s m e) := by
      unfold up fconv; rw [if_neg (by decide), hd]
    have hml : m.log2 ≤ 23 := by
      by_cases h0 : m = 0
      · subst h0; decide
      · have := (Nat.log2_lt h0).2 g1
        omega
    obtain ⟨m', e', k1, k2⟩ := encode_small s (m := m) (e := e) (t := 1149) (by omega) (by decide)
    rw [← hu] at k1
    obtain ⟨b1, b2, b3, _⟩ := decode_double_bound k1
    have k1' : Ieee.double.read (up y) = .number s m' e' := k1
    unfold fsqrt Ieee.Format.sqrt
    rw [k1']
    simp only [Ieee.Datum.root]
    split
    · rename_i h0
      subst h0
      obtain ⟨m2, e2, k3, k4⟩ := encode_small s (m := 0) (e := e') (t := 0) (by have : (0 : Nat).log2 = 0 := by decide
                                                                                omega) (by decide)
      exact fover_small k3 (by omega)
    · rename_i h0
      split
      · exact hq
      · simp only [Option.map_some, Option.getD_some]
        generalize hmore : 2 * (Ieee.double.fractionBits + 2) - m'.log2 + ((e' - ((2 * (Ieee.double.fractionBits + 2) - m'.log2 : Nat) : Int)) % 2).toNat = more
        have hn : (m' <<< more).log2 = m'.log2 + more := by rw [shl_eq, log2_mul_pow h0]
        have hr := rootFrom_lt (m' <<< more) ((m' <<< more).log2 / 2 + 1) 0
        generalize Ieee.Datum.rootFrom (m' <<< more) ((m' <<< more).log2 / 2 + 1) 0 = whole at hr ⊢
        rw [hn, Nat.zero_add] at hr
        generalize hb : (whole * whole != m' <<< more).toNat = bit
        have hb1 : bit ≤ 1 := by rw [← hb]; cases (whole * whole != m' <<< more) <;> decide
        have hlog : (2 * whole + bit).log2 ≤ (m'.log2 + more) / 2 + 1 := by
          by_cases hz : 2 * whole + bit = 0
          · rw [hz]; have : (0 : Nat).log2 = 0 := by decide
            omega
          · have : 2 * whole + bit < 2 ^ ((m'.log2 + more) / 2 + 2) := by
              rw [Nat.pow_succ]; omega
            have := (Nat.log2_lt hz).2 this
            omega
        obtain ⟨m2, e2, k3, k4⟩ := encode_small false (m := 2 * whole + bit) (e := (e' - (more : Int)) / 2 - 1) (t := 1090) (by omega) (by decide)
        exact fover_small k3 (by omega)
def sqrt32 (x : Nat) : Nat := fconv .f64 .f32 (fsqrt (fconv .f32 .f64 x))
theorem can_sqrt32 (x : Nat) : Can .f32 (sqrt32 x) := ⟨cb_fconv _ _ _ (by decide), fconv_lt _ _ _ (by decide)⟩
end Go.Proofs.Ytacjcomjnabmhaa
