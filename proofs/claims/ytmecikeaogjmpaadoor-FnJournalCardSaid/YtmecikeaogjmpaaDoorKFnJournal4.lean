/- Own texts of this claim, merged: WDu. -/
import Derived.KernelRfl
import Derived.Test.YtmecikeaogjmpaaDoorKFnJournal3
namespace Go.Proofs.YtmecikeaogjmpaaDoor
open Go.RowKit
set_option linter.unusedVariables false
set_option linter.unusedSimpArgs false
set_option maxRecDepth 20000

theorem known48_Du : Known Tryd.prog 48 := Known.mk' Tryd.func48 (by kernel_rfl)
theorem known35_Du : Known Tryd.prog 35 := Known.mk' Tryd.func35 (by kernel_rfl)
theorem sz9_Du : (Tryd.prog.info? 9).map (·.size) = some 1 := by kernel_rfl
theorem fb9_Du : flatB Tryd.prog 9 = true := by kernel_rfl
theorem sz2_Du : (Tryd.prog.info? 2).map (·.size) = some 1 := by kernel_rfl
theorem fb2_Du : flatB Tryd.prog 2 = true := by kernel_rfl
theorem ext105_Du : ExtF Tryd.prog 105 Extern.MathFloatBits.float32frombits := ⟨_, Tryd.func105, by kernel_rfl, by kernel_rfl, by kernel_rfl, by kernel_rfl⟩
theorem known54_Du : Known Tryd.prog 54 := Known.mk' Tryd.func54 (by kernel_rfl)
theorem known90_Du : Known Tryd.prog 90 := Known.mk' Tryd.func90 (by kernel_rfl)
theorem elt2_Du : Elt Tryd.prog 2 [Value.int .i64 0] 8 := Elt.mk' (by kernel_rfl) (by decide)
theorem known92_Du : Known Tryd.prog 92 := Known.mk' Tryd.func92 (by kernel_rfl)
theorem known91_Du : Known Tryd.prog 91 := Known.mk' Tryd.func91 (by kernel_rfl)
theorem zero101_Du : (Tryd.prog.info? 101).bind (·.zero) = some (Value.agg #[Value.float .f32 0, Value.float .f32 0, Value.float .f32 0]) := by kernel_rfl
theorem known53_Du : Known Tryd.prog 53 := Known.mk' Tryd.func53 (by kernel_rfl)
theorem lay101_Du : Lay Tryd.prog 101 [Value.float .f32 0, Value.float .f32 0, Value.float .f32 0] [(0, 1), (1, 1), (2, 1)] := Lay.mk' (by kernel_rfl) (by kernel_rfl)
theorem sz101_Du : (Tryd.prog.info? 101).map (·.size) = some 3 := by kernel_rfl
theorem sz90_Du : (Tryd.prog.info? 90).map (·.size) = some 1 := by kernel_rfl
theorem known74_Du : Known Tryd.prog 74 := Known.mk' Tryd.func74 (by kernel_rfl)
theorem zero104_Du : (Tryd.prog.info? 104).bind (·.zero) = some (Value.agg #[Value.float .f32 0, Value.float .f32 0, Value.float .f32 0, Value.float .f32 0]) := by kernel_rfl
theorem known56_Du : Known Tryd.prog 56 := Known.mk' Tryd.func56 (by kernel_rfl)
theorem lay104_Du : Lay Tryd.prog 104 [Value.float .f32 0, Value.float .f32 0, Value.float .f32 0, Value.float .f32 0] [(0, 3), (3, 1)] := Lay.mk' (by kernel_rfl) (by kernel_rfl)
theorem sz104_Du : (Tryd.prog.info? 104).map (·.size) = some 4 := by kernel_rfl
theorem elt90_Du : Elt Tryd.prog 90 [Value.float .f32 0] 4 := Elt.mk' (by kernel_rfl) (by decide)
theorem known75_Du : Known Tryd.prog 75 := Known.mk' Tryd.func75 (by kernel_rfl)
attribute [local irreducible] fop fcmp fconv fneg fabs List.getD qw hqw w2w g2w uw sb stb dec

theorem c_pickG {w0 : World} {a : Option Addr} {c q n sd : Nat} {bs : List Int} {m : Nat} (hA : Cl w0 a (bl bs)) (hb : Bytes bs) (hl : bs.length ≤ 2000000) (hn : n ≤ 99980) (hsd : sd < 18446744073709551616) (hm2 : 1 ≤ m) (hm3 : m ≤ 65536) : Mut Tryd.prog 35 [.pointer (some (adr (some ⟨q, 0, none⟩) 0)), .int .i64 (m : Int)] w0 [⟨some ⟨q, 0, none⟩, [.slice a bs.length c, .int .i64 ((n : Nat) : Int), .int .u64 ((sd : Nat) : Int)], 3, 87⟩] (fun x : {x : (Nat) × Nat × Nat // (x.1 < m) ∧ x.2.2 < 18446744073709551616 ∧ n ≤ x.2.1 ∧ x.2.1 ≤ n + 2} => .int .i64 ((x.1.1 : Nat) : Int)) (fun x => [⟨some ⟨q, 0, none⟩, [.slice a bs.length c, .int .i64 ((x.1.2.1 : Nat) : Int), .int .u64 ((x.1.2.2 : Nat) : Int)], 3, 87⟩]) := by
  refine Mut.enter Tryd.func35 rfl Tryd.ntmps35 (Nat.le_of_ble_eq_true rfl) ?_
  intro F
  refine V.seq ?_
  refine V.region ?_
  refine VL.r (.inl rfl) rfl (by decide) (yr_assign (u := .int .i64 0) rfl rfl) ?_
  refine VL.nil ?_
  refine VE.then_wp ?_
  refine V.seq ?_
  refine V.seq ?_
  refine V.region ?_
  refine VL.r (.inl rfl) rfl (by decide) (yr_move rfl rfl) ?_
  refine VL.r (.inl rfl) rfl (by decide) (yr_icmp rfl (.inr (.inr (.inr (.inl rfl)))) rfl rfl) ?_
  refine VL.nil ?_
  refine VE.then_wp ?_
  refine V.cond rfl (fun h1 => ?_) (fun h1 => ?_)
  · skip
    replace h1 := ic_leq h1
    refine V.seq ?_
    refine V.region ?_
    refine VL.r (.inl rfl) rfl (by decide) (yr_assign (u := .int .i64 0) rfl rfl) ?_
    refine VL.nil ?_
    refine VE.then_wp ?_
    refine V.ret ?_
    refine VE.then_ret ?_
    refine ret1 rfl rfl (fun w1 hw => ?_)
    first
      | exact ⟨⟨(0, n, sd), by show 0 < m; omega, hsd, Nat.le_refl _, by (try dsimp only); omega⟩, rfl, hw.pick (by apply Pick.app1; (· repeat (first | exact Rem.here | exact Rem.all | exact Rem.hereS | apply Rem.there | apply Rem.thereS)); apply Pick.cons1; (· repeat (first | exact Rem.here | exact Rem.all | exact Rem.hereS | apply Rem.there | apply Rem.thereS)); exact Pick.nil)⟩
      | exact ⟨⟨(x9 % m, n + 1, s9), Nat.mod_lt _ (by omega), hs9, by (try dsimp only); omega, by (try dsimp only); omega⟩, rfl, hw.pick (by apply Pick.app1; (· repeat (first | exact Rem.here | exact Rem.all | exact Rem.hereS | apply Rem.there | apply Rem.thereS)); apply Pick.cons1; (· repeat (first | exact Rem.here | exact Rem.all | exact Rem.hereS | apply Rem.there | apply Rem.thereS)); exact Pick.nil)⟩
      | exact ⟨⟨((x9 * 256 + x15) % m, n + 1 + 1, s15), Nat.mod_lt _ (by omega), hs15, by (try dsimp only); omega, by (try dsimp only); omega⟩, rfl, hw.pick (by apply Pick.app1; (· repeat (first | exact Rem.here | exact Rem.all | exact Rem.hereS | apply Rem.there | apply Rem.thereS)); apply Pick.cons1; (· repeat (first | exact Rem.here | exact Rem.all | exact Rem.hereS | apply Rem.there | apply Rem.thereS)); exact Pick.nil)⟩
  · skip
    replace h1 := ic_leq' h1
    refine V.skip ?_
    refine VE.then_wp ?_
    refine V.seq ?_
    refine V.region ?_
    refine VL.r (.inl rfl) rfl (by decide) (yr_move rfl rfl) ?_
    refine VL.c (.inl rfl) rfl (by decide) (yc_callf rfl known48_Du (.cons rfl .nil) (by apply Pick.one; repeat (first | exact Rem.here | apply Rem.there | apply Rem.thereS)) (c_next hA hb (by omega) (by omega) (by omega))) ?_
    rintro ⟨⟨x9, s9⟩, hx9, hs9⟩
    dsimp only at hx9 hs9
    refine VL.r (.inl rfl) rfl (by decide) (yr_assign rfl rfl) ?_
    refine VL.nil ?_
    refine VE.then_wp ?_
    refine V.seq ?_
    refine V.seq ?_
    refine V.region ?_
    refine VL.r (.inl rfl) rfl (by decide) (yr_move rfl rfl) ?_
    refine VL.r (.inl rfl) rfl (by decide) (yr_icmp rfl (.inr (.inr (.inr (.inr (.inl rfl))))) rfl rfl) ?_
    refine VL.nil ?_
    refine VE.then_wp ?_
    refine V.cond rfl (fun h2 => ?_) (fun h2 => ?_)
    · skip
      replace h2 := ic_gtr h2
      refine V.region ?_
      refine VL.r (.inl rfl) rfl (by decide) (yr_move rfl rfl) ?_
      refine VL.r (.inl rfl) rfl (by decide) (yr_mulN x9 256 rfl rfl rfl rfl rfl (by omega)) ?_
      refine VL.r (.inl rfl) rfl (by decide) (yr_move rfl rfl) ?_
      refine VL.c (.inl rfl) rfl (by decide) (yc_callf rfl known48_Du (.cons rfl .nil) (by apply Pick.one; repeat (first | exact Rem.here | apply Rem.there | apply Rem.thereS)) (c_next hA hb (by omega) (by omega) (by omega))) ?_
      rintro ⟨⟨x15, s15⟩, hx15, hs15⟩
      dsimp only at hx15 hs15
      refine VL.r (.inl rfl) rfl (by decide) (yr_addN (x9 * 256 + x15) rfl rfl rfl (by push_cast; rfl) (by omega)) ?_
      refine VL.r (.inl rfl) rfl (by decide) (yr_assign rfl rfl) ?_
      refine VL.nil ?_
      refine VE.then_wp ?_
      refine V.seq ?_
      refine V.region ?_
      refine VL.r (.inl rfl) rfl (by decide) (yr_move rfl rfl) ?_
      refine VL.r (.inl rfl) rfl (by decide) (yr_move rfl rfl) ?_
      refine VL.r (.inl rfl) rfl (by decide) (yr_remN (x9 * 256 + x15) m rfl rfl rfl rfl rfl (by omega)) ?_
      refine VL.r (.inl rfl) rfl (by decide) (yr_assign rfl rfl) ?_
      refine VL.nil ?_
      refine VE.then_wp ?_
      refine V.ret ?_
      refine ret1 rfl rfl (fun w1 hw => ?_)
      first
        | exact ⟨⟨(0, n, sd), by show 0 < m; omega, hsd, Nat.le_refl _, by (try dsimp only); omega⟩, rfl, hw.pick (by apply Pick.app1; (· repeat (first | exact Rem.here | exact Rem.all | exact Rem.hereS | apply Rem.there | apply Rem.thereS)); apply Pick.cons1; (· repeat (first | exact Rem.here | exact Rem.all | exact Rem.hereS | apply Rem.there | apply Rem.thereS)); exact Pick.nil)⟩
        | exact ⟨⟨(x9 % m, n + 1, s9), Nat.mod_lt _ (by omega), hs9, by (try dsimp only); omega, by (try dsimp only); omega⟩, rfl, hw.pick (by apply Pick.app1; (· repeat (first | exact Rem.here | exact Rem.all | exact Rem.hereS | apply Rem.there | apply Rem.thereS)); apply Pick.cons1; (· repeat (first | exact Rem.here | exact Rem.all | exact Rem.hereS | apply Rem.there | apply Rem.thereS)); exact Pick.nil)⟩
        | exact ⟨⟨((x9 * 256 + x15) % m, n + 1 + 1, s15), Nat.mod_lt _ (by omega), hs15, by (try dsimp only); omega, by (try dsimp only); omega⟩, rfl, hw.pick (by apply Pick.app1; (· repeat (first | exact Rem.here | exact Rem.all | exact Rem.hereS | apply Rem.there | apply Rem.thereS)); apply Pick.cons1; (· repeat (first | exact Rem.here | exact Rem.all | exact Rem.hereS | apply Rem.there | apply Rem.thereS)); exact Pick.nil)⟩
    · skip
      replace h2 := ic_gtr' h2
      refine V.skip ?_
      refine VE.then_wp ?_
      refine V.seq ?_
      refine V.region ?_
      refine VL.r (.inl rfl) rfl (by decide) (yr_move rfl rfl) ?_
      refine VL.r (.inl rfl) rfl (by decide) (yr_move rfl rfl) ?_
      refine VL.r (.inl rfl) rfl (by decide) (yr_remN x9 m rfl rfl rfl rfl rfl (by omega)) ?_
      refine VL.r (.inl rfl) rfl (by decide) (yr_assign rfl rfl) ?_
      refine VL.nil ?_
      refine VE.then_wp ?_
      refine V.ret ?_
      refine ret1 rfl rfl (fun w1 hw => ?_)
      first
        | exact ⟨⟨(0, n, sd), by show 0 < m; omega, hsd, Nat.le_refl _, by (try dsimp only); omega⟩, rfl, hw.pick (by apply Pick.app1; (· repeat (first | exact Rem.here | exact Rem.all | exact Rem.hereS | apply Rem.there | apply Rem.thereS)); apply Pick.cons1; (· repeat (first | exact Rem.here | exact Rem.all | exact Rem.hereS | apply Rem.there | apply Rem.thereS)); exact Pick.nil)⟩
        | exact ⟨⟨(x9 % m, n + 1, s9), Nat.mod_lt _ (by omega), hs9, by (try dsimp only); omega, by (try dsimp only); omega⟩, rfl, hw.pick (by apply Pick.app1; (· repeat (first | exact Rem.here | exact Rem.all | exact Rem.hereS | apply Rem.there | apply Rem.thereS)); apply Pick.cons1; (· repeat (first | exact Rem.here | exact Rem.all | exact Rem.hereS | apply Rem.there | apply Rem.thereS)); exact Pick.nil)⟩
        | exact ⟨⟨((x9 * 256 + x15) % m, n + 1 + 1, s15), Nat.mod_lt _ (by omega), hs15, by (try dsimp only); omega, by (try dsimp only); omega⟩, rfl, hw.pick (by apply Pick.app1; (· repeat (first | exact Rem.here | exact Rem.all | exact Rem.hereS | apply Rem.there | apply Rem.thereS)); apply Pick.cons1; (· repeat (first | exact Rem.here | exact Rem.all | exact Rem.hereS | apply Rem.there | apply Rem.thereS)); exact Pick.nil)⟩

theorem c_one {w0 : World} {a : Option Addr} {c q n sd : Nat} {bs : List Int} {m : Nat} (hA : Cl w0 a (bl bs)) (hb : Bytes bs) (hl : bs.length ≤ 2000000) (hn : n ≤ 99900) (hsd : sd < 18446744073709551616) (hm2 : 1 ≤ m) (hm3 : m ≤ 200) : Mut Tryd.prog 54 [.pointer (some (adr (some ⟨q, 0, none⟩) 0)), .int .i64 (m : Int)] w0 [⟨some ⟨q, 0, none⟩, [.slice a bs.length c, .int .i64 ((n : Nat) : Int), .int .u64 ((sd : Nat) : Int)], 3, 87⟩] (fun x : {x : (Bool) × Nat × Nat // (True) ∧ x.2.2 < 18446744073709551616 ∧ n ≤ x.2.1 ∧ x.2.1 ≤ n + 2} => .bool x.1.1) (fun x => [⟨some ⟨q, 0, none⟩, [.slice a bs.length c, .int .i64 ((x.1.2.1 : Nat) : Int), .int .u64 ((x.1.2.2 : Nat) : Int)], 3, 87⟩]) := by
  refine Mut.enter Tryd.func54 rfl Tryd.ntmps54 (Nat.le_of_ble_eq_true rfl) ?_
  intro F
  refine V.seq ?_
  refine V.region ?_
  refine VL.r (.inl rfl) rfl (by decide) (yr_assign (u := .bool false) rfl rfl) ?_
  refine VL.nil ?_
  refine VE.then_wp ?_
  refine V.seq ?_
  refine V.region ?_
  refine VL.r (.inl rfl) rfl (by decide) (yr_move rfl rfl) ?_
  refine VL.r (.inl rfl) rfl (by decide) (yr_move rfl rfl) ?_
  refine VL.c (.inl rfl) rfl (by decide) (yc_callf rfl known35_Du (.cons rfl (.cons rfl .nil)) (by apply Pick.one; repeat (first | exact Rem.here | apply Rem.there | apply Rem.thereS)) (c_pickG (m := m) hA hb hl (by (try dsimp only); omega) (by (try dsimp only); omega) (by (try dsimp only); omega) (by (try dsimp only); omega))) ?_
  rintro ⟨⟨x7, n7, s7⟩, hx7, hs7, hn7, hm7⟩
  dsimp only at hx7 hs7 hn7 hm7
  refine VL.r (.inl rfl) rfl (by decide) (yr_icmp rfl (.inl rfl) rfl rfl) ?_
  refine VL.r (.inl rfl) rfl (by decide) (yr_assign rfl rfl) ?_
  refine VL.nil ?_
  refine VE.then_wp ?_
  refine V.ret ?_
  refine ret1 rfl rfl (fun w1 hw => ?_)
  exact ⟨⟨(_, n7, s7), trivial, by assumption, by (try dsimp only); omega, by (try dsimp only); omega⟩, rfl, hw.pick (by apply Pick.app1; (· repeat (first | exact Rem.here | exact Rem.all | exact Rem.hereS | apply Rem.there | apply Rem.thereS)); apply Pick.cons1; (· repeat (first | exact Rem.here | exact Rem.all | exact Rem.hereS | apply Rem.there | apply Rem.thereS)); exact Pick.nil)⟩

theorem c_textD {w0 : World} {a : Option Addr} {c q n sd : Nat} {bs : List Int} {b : Option Addr} {d cap m : Nat} {ss : List ByteArray} (hA : Cl w0 a (bl bs)) (hb : Bytes bs) (hl : bs.length ≤ 2000000) (hn : n ≤ 99900) (hsd : sd < 18446744073709551616) (hS : ∀ s ∈ ss, tx s m) (hz : 1 ≤ ss.length ∧ ss.length ≤ 200) : Mut Tryd.prog 50 [.pointer (some (adr (some ⟨q, 0, none⟩) 0)), .slice b ss.length d] w0 [⟨some ⟨q, 0, none⟩, [.slice a bs.length c, .int .i64 ((n : Nat) : Int), .int .u64 ((sd : Nat) : Int)], 3, 87⟩, ⟨b, sx ss, cap, 9⟩] (fun x : {x : ({s : ByteArray // tx s m}) × Nat × Nat // (True) ∧ x.2.2 < 18446744073709551616 ∧ n ≤ x.2.1 ∧ x.2.1 ≤ n + 2} => .string x.1.1.1) (fun x => [⟨some ⟨q, 0, none⟩, [.slice a bs.length c, .int .i64 ((x.1.2.1 : Nat) : Int), .int .u64 ((x.1.2.2 : Nat) : Int)], 3, 87⟩, ⟨b, sx ss, cap, 9⟩]) := by
  refine Mut.enter Tryd.func50 rfl Tryd.ntmps50 (Nat.le_of_ble_eq_true rfl) ?_
  intro F
  refine V.seq ?_
  refine V.region ?_
  refine VL.r (.inl rfl) rfl (by decide) (yr_assign rfl rfl) ?_
  refine VL.nil ?_
  refine VE.then_wp ?_
  refine V.seq ?_
  refine V.region ?_
  refine VL.r (.inl rfl) rfl (by decide) (yr_move rfl rfl) ?_
  refine VL.r (.inl rfl) rfl (by decide) (yr_move rfl rfl) ?_
  refine VL.r (.inl rfl) rfl (by decide) (yr_move rfl rfl) ?_
  refine VL.r (.inl rfl) rfl (by decide) (yr_len rfl Tryd.underlying25 rfl) ?_
  refine VL.c (.inl rfl) rfl (by decide) (yc_callf rfl known35_Du (.cons rfl (.cons rfl .nil)) (by apply Pick.one; repeat (first | exact Rem.here | exact Rem.all | exact Rem.hereS | apply Rem.there | apply Rem.thereS)) (c_pickG (m := ss.length) hA hb hl (by (try dsimp only); omega) (by (try dsimp only); omega) (by (try dsimp only); omega) (by (try dsimp only); omega))) ?_
  rintro ⟨⟨x9, n9, s9⟩, hx9, hs9, hn9, hm9⟩
  dsimp only at hx9 hs9 hn9 hm9
  refine VL.q (.inl rfl) rfl (by decide) (yq_idx (k := x9) rfl Tryd.underlying25 sz9_Du rfl rfl (by first | exact Sees.root (by assumption) | exact Sees.own (by repeat (first | exact List.mem_cons_self | exact List.mem_append_left _ (by assumption) | apply List.mem_cons_of_mem | apply List.mem_append_right)) | exact Sees.root (hR _ (by omega)) | exact Sees.own (RowsIn.mem (by repeat (first | exact RowsIn.here | exact RowsIn.last | apply RowsIn.there | apply RowsIn.thereS)) _ (by omega)) | exact Sees.own (WRowsIn.mem (by repeat (first | exact WRowsIn.here | exact WRowsIn.last | apply WRowsIn.there | apply WRowsIn.thereS)) _ (by omega))) (by first | rfl | omega | (push_cast; rfl) | (push_cast; omega) | exact tmod_nat _ _) (by exact sx_length _) (by omega)) ?_
  refine VL.q (.inl rfl) rfl (by decide) (yq_load (u := .string (ss.getD x9 emB)) rfl fb9_Du rfl (by first | exact Sees.root (by assumption) | exact Sees.own (by repeat (first | exact List.mem_cons_self | exact List.mem_append_left _ (by assumption) | apply List.mem_cons_of_mem | apply List.mem_append_right)) | exact Sees.root (hR _ (by omega)) | exact Sees.own (RowsIn.mem (by repeat (first | exact RowsIn.here | exact RowsIn.last | apply RowsIn.there | apply RowsIn.thereS)) _ (by omega)) | exact Sees.own (WRowsIn.mem (by repeat (first | exact WRowsIn.here | exact WRowsIn.last | apply WRowsIn.there | apply WRowsIn.thereS)) _ (by omega))) (sx_get (by omega))) ?_
  refine VL.r (.inl rfl) rfl (by decide) (yr_assign rfl rfl) ?_
  refine VL.nil ?_
  refine VE.then_wp ?_
  refine V.ret ?_
  refine ret1 rfl rfl (fun w1 hw => ?_)
  exact ⟨⟨(⟨ss.getD x9 emB, txs_get hS (by omega)⟩, n9, s9), trivial, by assumption, by (try dsimp only); omega, by (try dsimp only); omega⟩, rfl, hw.pick (by apply Pick.app1; (· repeat (first | exact Rem.here | exact Rem.all | exact Rem.hereS | apply Rem.there | apply Rem.thereS)); apply Pick.cons1; (· repeat (first | exact Rem.here | exact Rem.all | exact Rem.hereS | apply Rem.there | apply Rem.thereS)); apply Pick.cons1; (· repeat (first | exact Rem.here | exact Rem.all | exact Rem.hereS | apply Rem.there | apply Rem.thereS)); exact Pick.nil)⟩

theorem c_among {w0 : World} {a : Option Addr} {c q n sd : Nat} {bs : List Int} {b : Option Addr} {d cap : Nat} {ns : List Int} (hA : Cl w0 a (bl bs)) (hb : Bytes bs) (hl : bs.length ≤ 2000000) (hn : n ≤ 99900) (hsd : sd < 18446744073709551616) (hz : 1 ≤ ns.length ∧ ns.length ≤ 200) : Mut Tryd.prog 92 [.pointer (some (adr (some ⟨q, 0, none⟩) 0)), .slice b ns.length d] w0 [⟨some ⟨q, 0, none⟩, [.slice a bs.length c, .int .i64 ((n : Nat) : Int), .int .u64 ((sd : Nat) : Int)], 3, 87⟩, ⟨b, il ns, cap, 2⟩] (fun x : {x : (Int) × Nat × Nat // (True) ∧ x.2.2 < 18446744073709551616 ∧ n ≤ x.2.1 ∧ x.2.1 ≤ n + 2} => .int .i64 x.1.1) (fun x => [⟨some ⟨q, 0, none⟩, [.slice a bs.length c, .int .i64 ((x.1.2.1 : Nat) : Int), .int .u64 ((x.1.2.2 : Nat) : Int)], 3, 87⟩, ⟨b, il ns, cap, 2⟩]) := by
  refine Mut.enter Tryd.func92 rfl Tryd.ntmps92 (Nat.le_of_ble_eq_true rfl) ?_
  intro F
  refine V.seq ?_
  refine V.region ?_
  refine VL.r (.inl rfl) rfl (by decide) (yr_assign (u := .int .i64 0) rfl rfl) ?_
  refine VL.nil ?_
  refine VE.then_wp ?_
  refine V.seq ?_
  refine V.region ?_
  refine VL.r (.inl rfl) rfl (by decide) (yr_move rfl rfl) ?_
  refine VL.r (.inl rfl) rfl (by decide) (yr_move rfl rfl) ?_
  refine VL.r (.inl rfl) rfl (by decide) (yr_move rfl rfl) ?_
  refine VL.r (.inl rfl) rfl (by decide) (yr_len rfl Tryd.underlying140 rfl) ?_
  refine VL.c (.inl rfl) rfl (by decide) (yc_callf rfl known35_Du (.cons rfl (.cons rfl .nil)) (by apply Pick.one; repeat (first | exact Rem.here | exact Rem.all | exact Rem.hereS | apply Rem.there | apply Rem.thereS)) (c_pickG (m := ns.length) hA hb hl (by (try dsimp only); omega) (by (try dsimp only); omega) (by (try dsimp only); omega) (by (try dsimp only); omega))) ?_
  rintro ⟨⟨x9, n9, s9⟩, hx9, hs9, hn9, hm9⟩
  dsimp only at hx9 hs9 hn9 hm9
  refine VL.q (.inl rfl) rfl (by decide) (yq_idx (k := x9) rfl Tryd.underlying140 sz2_Du rfl rfl (by first | exact Sees.root (by assumption) | exact Sees.own (by repeat (first | exact List.mem_cons_self | exact List.mem_append_left _ (by assumption) | apply List.mem_cons_of_mem | apply List.mem_append_right)) | exact Sees.root (hR _ (by omega)) | exact Sees.own (RowsIn.mem (by repeat (first | exact RowsIn.here | exact RowsIn.last | apply RowsIn.there | apply RowsIn.thereS)) _ (by omega)) | exact Sees.own (WRowsIn.mem (by repeat (first | exact WRowsIn.here | exact WRowsIn.last | apply WRowsIn.there | apply WRowsIn.thereS)) _ (by omega))) (by first | rfl | omega | (push_cast; rfl) | (push_cast; omega) | exact tmod_nat _ _) (by exact ilz_length _) (by omega)) ?_
  refine VL.q (.inl rfl) rfl (by decide) (yq_load (u := .int .i64 (ns.getD x9 0)) rfl fb2_Du rfl (by first | exact Sees.root (by assumption) | exact Sees.own (by repeat (first | exact List.mem_cons_self | exact List.mem_append_left _ (by assumption) | apply List.mem_cons_of_mem | apply List.mem_append_right)) | exact Sees.root (hR _ (by omega)) | exact Sees.own (RowsIn.mem (by repeat (first | exact RowsIn.here | exact RowsIn.last | apply RowsIn.there | apply RowsIn.thereS)) _ (by omega)) | exact Sees.own (WRowsIn.mem (by repeat (first | exact WRowsIn.here | exact WRowsIn.last | apply WRowsIn.there | apply WRowsIn.thereS)) _ (by omega))) (ilz_get (by omega))) ?_
  refine VL.r (.inl rfl) rfl (by decide) (yr_assign rfl rfl) ?_
  refine VL.nil ?_
  refine VE.then_wp ?_
  refine V.ret ?_
  refine ret1 rfl rfl (fun w1 hw => ?_)
  exact ⟨⟨(_, n9, s9), trivial, by assumption, by (try dsimp only); omega, by (try dsimp only); omega⟩, rfl, hw.pick (by apply Pick.app1; (· repeat (first | exact Rem.here | exact Rem.all | exact Rem.hereS | apply Rem.there | apply Rem.thereS)); apply Pick.cons1; (· repeat (first | exact Rem.here | exact Rem.all | exact Rem.hereS | apply Rem.there | apply Rem.thereS)); apply Pick.cons1; (· repeat (first | exact Rem.here | exact Rem.all | exact Rem.hereS | apply Rem.there | apply Rem.thereS)); exact Pick.nil)⟩

theorem c_small {w0 : World} {a : Option Addr} {c q n sd : Nat} {bs : List Int} (hA : Cl w0 a (bl bs)) (hb : Bytes bs) (hl : bs.length ≤ 2000000) (hn : n ≤ 99900) (hsd : sd < 18446744073709551616) : Mut Tryd.prog 53 [.pointer (some (adr (some ⟨q, 0, none⟩) 0))] w0 [⟨some ⟨q, 0, none⟩, [.slice a bs.length c, .int .i64 ((n : Nat) : Int), .int .u64 ((sd : Nat) : Int)], 3, 87⟩] (fun x : {x : (Nat) × Nat × Nat // (True) ∧ x.2.2 < 18446744073709551616 ∧ n ≤ x.2.1 ∧ x.2.1 ≤ n + 2} => .float .f32 x.1.1) (fun x => [⟨some ⟨q, 0, none⟩, [.slice a bs.length c, .int .i64 ((x.1.2.1 : Nat) : Int), .int .u64 ((x.1.2.2 : Nat) : Int)], 3, 87⟩]) := by
  refine Mut.enter Tryd.func53 rfl Tryd.ntmps53 (Nat.le_of_ble_eq_true rfl) ?_
  intro F
  refine V.seq ?_
  refine V.region ?_
  refine VL.r (.inl rfl) rfl (by decide) (yr_assign (u := .float .f32 0) rfl rfl) ?_
  refine VL.nil ?_
  refine VE.then_wp ?_
  refine V.seq ?_
  refine V.region ?_
  refine VL.r (.inl rfl) rfl (by decide) (yr_move rfl rfl) ?_
  refine VL.c (.inl rfl) rfl (by decide) (yc_callf rfl known35_Du (.cons rfl (.cons rfl .nil)) (by apply Pick.one; repeat (first | exact Rem.here | apply Rem.there | apply Rem.thereS)) (c_pickG (m := 33) hA hb hl (by (try dsimp only); omega) (by (try dsimp only); omega) (by (try dsimp only); omega) (by (try dsimp only); omega))) ?_
  rintro ⟨⟨x4, n4, s4⟩, hx4, hs4, hn4, hm4⟩
  dsimp only at hx4 hs4 hn4 hm4
  refine VL.r (.inl rfl) rfl (by decide) (yr_int rfl rfl rfl (.inr (.inl ⟨rfl, wrap_in (by (try dsimp only); omega)⟩))) ?_
  refine VL.r (.inl rfl) rfl (by decide) (yr_ofInt rfl Tryd.underlying2 Tryd.underlying90 rfl) ?_
  refine VL.r (.inl rfl) rfl (by decide) (yr_float (b := 1082130432) rfl (.inr (.inr (.inr rfl))) rfl rfl) ?_
  refine VL.r (.inl rfl) rfl (by decide) (yr_assign rfl rfl) ?_
  refine VL.nil ?_
  refine VE.then_wp ?_
  refine V.ret ?_
  refine ret1 rfl rfl (fun w1 hw => ?_)
  exact ⟨⟨(_, n4, s4), trivial, by assumption, by (try dsimp only); omega, by (try dsimp only); omega⟩, rfl, hw.pick (by apply Pick.app1; (· repeat (first | exact Rem.here | exact Rem.all | exact Rem.hereS | apply Rem.there | apply Rem.thereS)); apply Pick.cons1; (· repeat (first | exact Rem.here | exact Rem.all | exact Rem.hereS | apply Rem.there | apply Rem.thereS)); exact Pick.nil)⟩

theorem c_fromD {w : World} {x : Int} : Pure Tryd.prog 91 [.int .i64 x] w (.float .f32 (cb .f32 (w32 x))) := by
  refine Pure.enter Tryd.func91 rfl Tryd.ntmps91 (Nat.le_of_ble_eq_true rfl) ?_
  refine V.seq ?_
  refine V.region ?_
  refine VL.r (.inl rfl) rfl (by decide) (yr_assign (u := .float .f32 0) rfl rfl) ?_
  refine VL.nil ?_
  refine VE.then_wp ?_
  refine V.seq ?_
  refine V.region ?_
  refine VL.r (.inl rfl) rfl (by decide) (yr_move rfl rfl) ?_
  refine VL.r (.inl rfl) rfl (by decide) (yr_intConv (r := ((w32 x : Nat) : Int)) rfl Tryd.underlying2 Tryd.underlying133 rfl (w32_is x)) ?_
  refine VL.q (.inl rfl) rfl (by decide) (yq_ext rfl ext105_Du (.cons rfl .nil) (fun vs w h => ext_from32 vs w h)) ?_
  refine VL.r (.inl rfl) rfl (by decide) (yr_assign rfl rfl) ?_
  refine VL.nil ?_
  refine VE.then_wp ?_
  refine V.ret ?_
  refine ret1 rfl rfl (fun w1 hw => ?_)
  exact ⟨rfl, hw.below⟩

theorem c_plain {w0 : World} {a : Option Addr} {c q n sd : Nat} {bs : List Int} (hA : Cl w0 a (bl bs)) (hb : Bytes bs) (hl : bs.length ≤ 2000000) (hn : n ≤ 99800) (hsd : sd < 18446744073709551616) : Mut Tryd.prog 90 [.pointer (some (adr (some ⟨q, 0, none⟩) 0))] w0 [⟨some ⟨q, 0, none⟩, [.slice a bs.length c, .int .i64 ((n : Nat) : Int), .int .u64 ((sd : Nat) : Int)], 3, 87⟩] (fun x : {x : (Nat) × Nat × Nat // (True) ∧ x.2.2 < 18446744073709551616 ∧ n ≤ x.2.1 ∧ x.2.1 ≤ n + 4} => .float .f32 x.1.1) (fun x => [⟨some ⟨q, 0, none⟩, [.slice a bs.length c, .int .i64 ((x.1.2.1 : Nat) : Int), .int .u64 ((x.1.2.2 : Nat) : Int)], 3, 87⟩]) := by
  refine Mut.enter Tryd.func90 rfl Tryd.ntmps90 (Nat.le_of_ble_eq_true rfl) ?_
  intro F
  refine V.seq ?_
  refine V.region ?_
  refine VL.r (.inl rfl) rfl (by decide) (yr_assign (u := .float .f32 0) rfl rfl) ?_
  refine VL.nil ?_
  refine VE.then_wp ?_
  refine V.seq ?_
  refine V.region ?_
  refine VL.r (.inl rfl) rfl (by decide) (yr_move rfl rfl) ?_
  refine VL.c (.inl rfl) rfl (by decide) (yc_callf rfl known35_Du (.cons rfl (.cons rfl .nil)) (by apply Pick.one; repeat (first | exact Rem.here | apply Rem.there | apply Rem.thereS)) (c_pickG (m := 129) hA hb hl (by (try dsimp only); omega) (by (try dsimp only); omega) (by (try dsimp only); omega) (by (try dsimp only); omega))) ?_
  rintro ⟨⟨x5, n5, s5⟩, hx5, hs5, hn5, hm5⟩
  dsimp only at hx5 hs5 hn5 hm5
  refine VL.r (.inl rfl) rfl (by decide) (yr_int rfl rfl rfl (.inr (.inl ⟨rfl, wrap_in (by (try dsimp only); omega)⟩))) ?_
  refine VL.r (.inl rfl) rfl (by decide) (yr_assign rfl rfl) ?_
  refine VL.nil ?_
  refine VE.then_wp ?_
  refine V.seq ?_
  refine V.seq ?_
  refine V.region ?_
  refine VL.r (.inl rfl) rfl (by decide) (yr_move rfl rfl) ?_
  refine VL.c (.inl rfl) rfl (by decide) (yc_callf rfl known54_Du (.cons rfl (.cons rfl .nil)) (by apply Pick.one; repeat (first | exact Rem.here | apply Rem.there | apply Rem.thereS)) (c_one (m := 4) hA hb hl (by (try dsimp only); omega) (by (try dsimp only); omega) (by decide) (by decide))) ?_
  rintro ⟨⟨v8, n8, s8⟩, hv8, hs8, hn8, hm8⟩
  dsimp only at hv8 hs8 hn8 hm8
  refine VL.nil ?_
  refine VE.then_wp ?_
  refine V.cond rfl (fun h1 => ?_) (fun h1 => ?_)
  · skip
    refine V.seq ?_
    refine V.region ?_
    refine VL.r (.inl rfl) rfl (by decide) (yr_move rfl rfl) ?_
    refine VL.r (.inl rfl) rfl (by decide) (yr_ofInt rfl Tryd.underlying2 Tryd.underlying90 rfl) ?_
    refine VL.r (.inl rfl) rfl (by decide) (yr_float (b := 1088421888) rfl (.inr (.inr (.inr rfl))) rfl rfl) ?_
    refine VL.r (.inl rfl) rfl (by decide) (yr_assign rfl rfl) ?_
    refine VL.nil ?_
    refine VE.then_wp ?_
    refine V.ret ?_
    refine VE.then_ret ?_
    refine ret1 rfl rfl (fun w1 hw => ?_)
    exact ⟨⟨(_, n8, s8), trivial, by assumption, by (try dsimp only); omega, by (try dsimp only); omega⟩, rfl, hw.pick (by apply Pick.app1; (· repeat (first | exact Rem.here | exact Rem.all | exact Rem.hereS | apply Rem.there | apply Rem.thereS)); apply Pick.cons1; (· repeat (first | exact Rem.here | exact Rem.all | exact Rem.hereS | apply Rem.there | apply Rem.thereS)); exact Pick.nil)⟩
  · skip
    refine V.skip ?_
    refine VE.then_wp ?_
    refine V.seq ?_
    refine V.region ?_
    refine VL.r (.inl rfl) rfl (by decide) (yr_move rfl rfl) ?_
    refine VL.r (.inl rfl) rfl (by decide) (yr_ofInt rfl Tryd.underlying2 Tryd.underlying90 rfl) ?_
    refine VL.r (.inl rfl) rfl (by decide) (yr_float (b := 1098907648) rfl (.inr (.inr (.inr rfl))) rfl rfl) ?_
    refine VL.r (.inl rfl) rfl (by decide) (yr_assign rfl rfl) ?_
    refine VL.nil ?_
    refine VE.then_wp ?_
    refine V.ret ?_
    refine ret1 rfl rfl (fun w1 hw => ?_)
    exact ⟨⟨(_, n8, s8), trivial, by assumption, by (try dsimp only); omega, by (try dsimp only); omega⟩, rfl, hw.pick (by apply Pick.app1; (· repeat (first | exact Rem.here | exact Rem.all | exact Rem.hereS | apply Rem.there | apply Rem.thereS)); apply Pick.cons1; (· repeat (first | exact Rem.here | exact Rem.all | exact Rem.hereS | apply Rem.there | apply Rem.thereS)); exact Pick.nil)⟩

theorem c_dfloat {w0 : World} {a : Option Addr} {c q n sd : Nat} {bs : List Int} (hA : Cl w0 a (bl bs)) (hb : Bytes bs) (hl : bs.length ≤ 2000000) (hn : n ≤ 99700) (hsd : sd < 18446744073709551616) : Mut Tryd.prog 74 [.pointer (some (adr (some ⟨q, 0, none⟩) 0))] w0 [⟨some ⟨q, 0, none⟩, [.slice a bs.length c, .int .i64 ((n : Nat) : Int), .int .u64 ((sd : Nat) : Int)], 3, 87⟩] (fun x : {x : (Nat) × Nat × Nat // (True) ∧ x.2.2 < 18446744073709551616 ∧ n ≤ x.2.1 ∧ x.2.1 ≤ n + 12} => .float .f32 x.1.1) (fun x => [⟨some ⟨q, 0, none⟩, [.slice a bs.length c, .int .i64 ((x.1.2.1 : Nat) : Int), .int .u64 ((x.1.2.2 : Nat) : Int)], 3, 87⟩]) := by
  refine Mut.enter Tryd.func74 rfl Tryd.ntmps74 (Nat.le_of_ble_eq_true rfl) ?_
  intro F
  refine V.seq ?_
  refine V.region ?_
  refine VL.r (.inl rfl) rfl (by decide) (yr_assign (u := .float .f32 0) rfl rfl) ?_
  refine VL.nil ?_
  refine VE.then_wp ?_
  refine V.seq ?_
  refine V.seq ?_
  refine V.region ?_
  refine VL.r (.inl rfl) rfl (by decide) (yr_move rfl rfl) ?_
  refine VL.c (.inl rfl) rfl (by decide) (yc_callf rfl known54_Du (.cons rfl (.cons rfl .nil)) (by apply Pick.one; repeat (first | exact Rem.here | apply Rem.there | apply Rem.thereS)) (c_one (m := 12) hA hb hl (by (try dsimp only); omega) (by (try dsimp only); omega) (by decide) (by decide))) ?_
  rintro ⟨⟨v5, n5, s5⟩, hv5, hs5, hn5, hm5⟩
  dsimp only at hv5 hs5 hn5 hm5
  refine VL.r (.inl rfl) rfl (by decide) (yr_not rfl rfl) ?_
  refine VL.nil ?_
  refine VE.then_wp ?_
  refine V.cond rfl (fun h1 => ?_) (fun h1 => ?_)
  · skip
    replace h1 := bnot_t h1
    refine V.seq ?_
    refine V.region ?_
    refine VL.r (.inl rfl) rfl (by decide) (yr_move rfl rfl) ?_
    refine VL.c (.inl rfl) rfl (by decide) (yc_callf rfl known90_Du (.cons rfl .nil) (by apply Pick.one; repeat (first | exact Rem.here | apply Rem.there | apply Rem.thereS)) (c_plain hA hb hl (by (try dsimp only); omega) (by (try dsimp only); omega))) ?_
    rintro ⟨⟨v8, n8, s8⟩, hv8, hs8, hn8, hm8⟩
    dsimp only at hv8 hs8 hn8 hm8
    refine VL.r (.inl rfl) rfl (by decide) (yr_assign rfl rfl) ?_
    refine VL.nil ?_
    refine VE.then_wp ?_
    refine V.ret ?_
    refine VE.then_ret ?_
    refine ret1 rfl rfl (fun w1 hw => ?_)
    first
      | exact ⟨⟨(_, n8, s8), trivial, by assumption, by (try dsimp only); omega, by (try dsimp only); omega⟩, rfl, hw.pick (by apply Pick.app1; (· repeat (first | exact Rem.here | exact Rem.all | exact Rem.hereS | apply Rem.there | apply Rem.thereS)); apply Pick.cons1; (· repeat (first | exact Rem.here | exact Rem.all | exact Rem.hereS | apply Rem.there | apply Rem.thereS)); exact Pick.nil)⟩
      | exact ⟨⟨(_, n15, s15), trivial, by assumption, by (try dsimp only); omega, by (try dsimp only); omega⟩, rfl, hw.pick (by apply Pick.app1; (· repeat (first | exact Rem.here | exact Rem.all | exact Rem.hereS | apply Rem.there | apply Rem.thereS)); apply Pick.cons1; (· repeat (first | exact Rem.here | exact Rem.all | exact Rem.hereS | apply Rem.there | apply Rem.thereS)); exact Pick.nil)⟩
      | exact ⟨⟨(_, n24, s24), trivial, by assumption, by (try dsimp only); omega, by (try dsimp only); omega⟩, rfl, hw.pick (by apply Pick.app1; (· repeat (first | exact Rem.here | exact Rem.all | exact Rem.hereS | apply Rem.there | apply Rem.thereS)); apply Pick.cons1; (· repeat (first | exact Rem.here | exact Rem.all | exact Rem.hereS | apply Rem.there | apply Rem.thereS)); exact Pick.nil)⟩
      | exact ⟨⟨(_, n30, s30), trivial, by assumption, by (try dsimp only); omega, by (try dsimp only); omega⟩, rfl, hw.pick (by apply Pick.app1; (· repeat (first | exact Rem.here | exact Rem.all | exact Rem.hereS | apply Rem.there | apply Rem.thereS)); apply Pick.cons1; (· repeat (first | exact Rem.here | exact Rem.all | exact Rem.hereS | apply Rem.there | apply Rem.thereS)); exact Pick.nil)⟩
      | exact ⟨⟨(_, n37, s37), trivial, by assumption, by (try dsimp only); omega, by (try dsimp only); omega⟩, rfl, hw.pick (by apply Pick.app1; (· repeat (first | exact Rem.here | exact Rem.all | exact Rem.hereS | apply Rem.there | apply Rem.thereS)); apply Pick.cons1; (· repeat (first | exact Rem.here | exact Rem.all | exact Rem.hereS | apply Rem.there | apply Rem.thereS)); exact Pick.nil)⟩
  · skip
    replace h1 := bnot_f h1
    refine V.skip ?_
    refine VE.then_wp ?_
    refine V.seq ?_
    refine V.seq ?_
    refine V.region ?_
    refine VL.r (.inl rfl) rfl (by decide) (yr_move rfl rfl) ?_
    refine VL.c (.inl rfl) rfl (by decide) (yc_callf rfl known35_Du (.cons rfl (.cons rfl .nil)) (by apply Pick.one; repeat (first | exact Rem.here | apply Rem.there | apply Rem.thereS)) (c_pickG (m := 4) hA hb hl (by (try dsimp only); omega) (by (try dsimp only); omega) (by (try dsimp only); omega) (by (try dsimp only); omega))) ?_
    rintro ⟨⟨x10, n10, s10⟩, hx10, hs10, hn10, hm10⟩
    dsimp only at hx10 hs10 hn10 hm10
    refine VL.nil ?_
    refine VE.then_wp ?_
    refine V.block ?_
    refine V.seq ?_
    refine V.region ?_
    refine VL.r (.inl rfl) rfl (by decide) (yr_icmp rfl (.inl rfl) rfl rfl) ?_
    refine VL.r (.inl rfl) rfl (by decide) (yr_assign rfl rfl) ?_
    refine VL.nil ?_
    refine VE.then_wp ?_
    refine V.cond rfl (fun h2 => ?_) (fun h2 => ?_)
    · skip
      replace h2 := ic_eql h2
      refine V.seq ?_
      refine V.region ?_
      refine VL.r (.inl rfl) rfl (by decide) (yr_move rfl rfl) ?_
      refine VL.new1 (.inl rfl) rfl (by decide) (yn_lit rfl Tryd.underlying140 elt2_Du rfl (by decide) (.cons rfl (.cons rfl (.cons rfl (.cons rfl (.cons rfl (.cons rfl (.cons rfl (.cons rfl (.cons rfl (.cons rfl .nil)))))))))) (by first | (simp; done) | (simp [cn, cn1, cn0]; done)) rfl rfl rfl) ?_
      intro b14
      refine VL.c (.inl rfl) rfl (by decide) (yc_callf rfl known92_Du (.cons rfl (.cons rfl .nil)) (by apply Pick.e2; all_goals (repeat (first | exact Rem.here | exact Rem.all | exact Rem.hereS | apply Rem.there | apply Rem.thereS))) (c_among (ns := [0, 2147483648, 2139095040, 4286578688, 2143289344, 1, 2139095039, 8388608, 8388607, 2147483649]) (cap := [0, 2147483648, 2139095040, 4286578688, 2143289344, 1, 2139095039, 8388608, 8388607, 2147483649].length * 1) hA hb hl (by (try dsimp only); omega) (by (try dsimp only); omega) (by decide))) ?_
      rintro ⟨⟨v15, n15, s15⟩, hv15, hs15, hn15, hm15⟩
      dsimp only at hv15 hs15 hn15 hm15
      refine VL.q (.inl rfl) rfl (by decide) (yq_callf rfl known91_Du (.cons rfl .nil) (fun w hw => c_fromD)) ?_
      refine VL.r (.inl rfl) rfl (by decide) (yr_assign rfl rfl) ?_
      refine VL.nil ?_
      refine VE.then_wp ?_
      refine V.ret ?_
      refine VE.block_ret ?_
      refine VE.then_ret ?_
      refine ret1 rfl rfl (fun w1 hw => ?_)
      first
        | exact ⟨⟨(_, n8, s8), trivial, by assumption, by (try dsimp only); omega, by (try dsimp only); omega⟩, rfl, hw.pick (by apply Pick.app1; (· repeat (first | exact Rem.here | exact Rem.all | exact Rem.hereS | apply Rem.there | apply Rem.thereS)); apply Pick.cons1; (· repeat (first | exact Rem.here | exact Rem.all | exact Rem.hereS | apply Rem.there | apply Rem.thereS)); exact Pick.nil)⟩
        | exact ⟨⟨(_, n15, s15), trivial, by assumption, by (try dsimp only); omega, by (try dsimp only); omega⟩, rfl, hw.pick (by apply Pick.app1; (· repeat (first | exact Rem.here | exact Rem.all | exact Rem.hereS | apply Rem.there | apply Rem.thereS)); apply Pick.cons1; (· repeat (first | exact Rem.here | exact Rem.all | exact Rem.hereS | apply Rem.there | apply Rem.thereS)); exact Pick.nil)⟩
        | exact ⟨⟨(_, n24, s24), trivial, by assumption, by (try dsimp only); omega, by (try dsimp only); omega⟩, rfl, hw.pick (by apply Pick.app1; (· repeat (first | exact Rem.here | exact Rem.all | exact Rem.hereS | apply Rem.there | apply Rem.thereS)); apply Pick.cons1; (· repeat (first | exact Rem.here | exact Rem.all | exact Rem.hereS | apply Rem.there | apply Rem.thereS)); exact Pick.nil)⟩
        | exact ⟨⟨(_, n30, s30), trivial, by assumption, by (try dsimp only); omega, by (try dsimp only); omega⟩, rfl, hw.pick (by apply Pick.app1; (· repeat (first | exact Rem.here | exact Rem.all | exact Rem.hereS | apply Rem.there | apply Rem.thereS)); apply Pick.cons1; (· repeat (first | exact Rem.here | exact Rem.all | exact Rem.hereS | apply Rem.there | apply Rem.thereS)); exact Pick.nil)⟩
        | exact ⟨⟨(_, n37, s37), trivial, by assumption, by (try dsimp only); omega, by (try dsimp only); omega⟩, rfl, hw.pick (by apply Pick.app1; (· repeat (first | exact Rem.here | exact Rem.all | exact Rem.hereS | apply Rem.there | apply Rem.thereS)); apply Pick.cons1; (· repeat (first | exact Rem.here | exact Rem.all | exact Rem.hereS | apply Rem.there | apply Rem.thereS)); exact Pick.nil)⟩
    · skip
      replace h2 := ic_eql' h2
      refine V.seq ?_
      refine V.region ?_
      refine VL.r (.inl rfl) rfl (by decide) (yr_icmp rfl (.inl rfl) rfl rfl) ?_
      refine VL.r (.inl rfl) rfl (by decide) (yr_assign rfl rfl) ?_
      refine VL.nil ?_
      refine VE.then_wp ?_
      refine V.cond rfl (fun h3 => ?_) (fun h3 => ?_)
      · skip
        replace h3 := ic_eql h3
        refine V.seq ?_
        refine V.region ?_
        refine VL.r (.inl rfl) rfl (by decide) (yr_move rfl rfl) ?_
        refine VL.c (.inl rfl) rfl (by decide) (yc_callf rfl known35_Du (.cons rfl (.cons rfl .nil)) (by apply Pick.one; repeat (first | exact Rem.here | apply Rem.there | apply Rem.thereS)) (c_pickG (m := 65536) hA hb hl (by (try dsimp only); omega) (by (try dsimp only); omega) (by (try dsimp only); omega) (by (try dsimp only); omega))) ?_
        rintro ⟨⟨x20, n20, s20⟩, hx20, hs20, hn20, hm20⟩
        dsimp only at hx20 hs20 hn20 hm20
        refine VL.r (.inl rfl) rfl (by decide) (yr_mulN x20 65536 rfl rfl rfl rfl rfl (by omega)) ?_
        refine VL.r (.inl rfl) rfl (by decide) (yr_assign rfl rfl) ?_
        refine VL.nil ?_
        refine VE.then_wp ?_
        refine V.seq ?_
        refine V.region ?_
        refine VL.r (.inl rfl) rfl (by decide) (yr_move rfl rfl) ?_
        refine VL.r (.inl rfl) rfl (by decide) (yr_move rfl rfl) ?_
        refine VL.c (.inl rfl) rfl (by decide) (yc_callf rfl known35_Du (.cons rfl (.cons rfl .nil)) (by apply Pick.one; repeat (first | exact Rem.here | apply Rem.there | apply Rem.thereS)) (c_pickG (m := 65536) hA hb hl (by (try dsimp only); omega) (by (try dsimp only); omega) (by (try dsimp only); omega) (by (try dsimp only); omega))) ?_
        rintro ⟨⟨x24, n24, s24⟩, hx24, hs24, hn24, hm24⟩
        dsimp only at hx24 hs24 hn24 hm24
        refine VL.r (.inl rfl) rfl (by decide) (yr_int rfl rfl rfl (.inl ⟨rfl, wrap_in (by (try dsimp only); omega)⟩)) ?_
        refine VL.q (.inl rfl) rfl (by decide) (yq_callf rfl known91_Du (.cons rfl .nil) (fun w hw => c_fromD)) ?_
        refine VL.r (.inl rfl) rfl (by decide) (yr_assign rfl rfl) ?_
        refine VL.nil ?_
        refine VE.then_wp ?_
        refine V.ret ?_
        refine VE.block_ret ?_
        refine VE.then_ret ?_
        refine ret1 rfl rfl (fun w1 hw => ?_)
        first
          | exact ⟨⟨(_, n8, s8), trivial, by assumption, by (try dsimp only); omega, by (try dsimp only); omega⟩, rfl, hw.pick (by apply Pick.app1; (· repeat (first | exact Rem.here | exact Rem.all | exact Rem.hereS | apply Rem.there | apply Rem.thereS)); apply Pick.cons1; (· repeat (first | exact Rem.here | exact Rem.all | exact Rem.hereS | apply Rem.there | apply Rem.thereS)); exact Pick.nil)⟩
          | exact ⟨⟨(_, n15, s15), trivial, by assumption, by (try dsimp only); omega, by (try dsimp only); omega⟩, rfl, hw.pick (by apply Pick.app1; (· repeat (first | exact Rem.here | exact Rem.all | exact Rem.hereS | apply Rem.there | apply Rem.thereS)); apply Pick.cons1; (· repeat (first | exact Rem.here | exact Rem.all | exact Rem.hereS | apply Rem.there | apply Rem.thereS)); exact Pick.nil)⟩
          | exact ⟨⟨(_, n24, s24), trivial, by assumption, by (try dsimp only); omega, by (try dsimp only); omega⟩, rfl, hw.pick (by apply Pick.app1; (· repeat (first | exact Rem.here | exact Rem.all | exact Rem.hereS | apply Rem.there | apply Rem.thereS)); apply Pick.cons1; (· repeat (first | exact Rem.here | exact Rem.all | exact Rem.hereS | apply Rem.there | apply Rem.thereS)); exact Pick.nil)⟩
          | exact ⟨⟨(_, n30, s30), trivial, by assumption, by (try dsimp only); omega, by (try dsimp only); omega⟩, rfl, hw.pick (by apply Pick.app1; (· repeat (first | exact Rem.here | exact Rem.all | exact Rem.hereS | apply Rem.there | apply Rem.thereS)); apply Pick.cons1; (· repeat (first | exact Rem.here | exact Rem.all | exact Rem.hereS | apply Rem.there | apply Rem.thereS)); exact Pick.nil)⟩
          | exact ⟨⟨(_, n37, s37), trivial, by assumption, by (try dsimp only); omega, by (try dsimp only); omega⟩, rfl, hw.pick (by apply Pick.app1; (· repeat (first | exact Rem.here | exact Rem.all | exact Rem.hereS | apply Rem.there | apply Rem.thereS)); apply Pick.cons1; (· repeat (first | exact Rem.here | exact Rem.all | exact Rem.hereS | apply Rem.there | apply Rem.thereS)); exact Pick.nil)⟩
      · skip
        replace h3 := ic_eql' h3
        refine V.seq ?_
        refine V.region ?_
        refine VL.r (.inl rfl) rfl (by decide) (yr_icmp rfl (.inl rfl) rfl rfl) ?_
        refine VL.r (.inl rfl) rfl (by decide) (yr_assign rfl rfl) ?_
        refine VL.nil ?_
        refine VE.then_wp ?_
        refine V.cond rfl (fun h4 => ?_) (fun h4 => ?_)
        · skip
          replace h4 := ic_eql h4
          refine V.seq ?_
          refine V.region ?_
          refine VL.r (.inl rfl) rfl (by decide) (yr_move rfl rfl) ?_
          refine VL.c (.inl rfl) rfl (by decide) (yc_callf rfl known35_Du (.cons rfl (.cons rfl .nil)) (by apply Pick.one; repeat (first | exact Rem.here | apply Rem.there | apply Rem.thereS)) (c_pickG (m := 65536) hA hb hl (by (try dsimp only); omega) (by (try dsimp only); omega) (by (try dsimp only); omega) (by (try dsimp only); omega))) ?_
          rintro ⟨⟨x30, n30, s30⟩, hx30, hs30, hn30, hm30⟩
          dsimp only at hx30 hs30 hn30 hm30
          refine VL.r (.inl rfl) rfl (by decide) (yr_mulN x30 65536 rfl rfl rfl rfl rfl (by omega)) ?_
          refine VL.q (.inl rfl) rfl (by decide) (yq_callf rfl known91_Du (.cons rfl .nil) (fun w hw => c_fromD)) ?_
          refine VL.r (.inl rfl) rfl (by decide) (yr_assign rfl rfl) ?_
          refine VL.nil ?_
          refine VE.then_wp ?_
          refine V.ret ?_
          refine VE.block_ret ?_
          refine VE.then_ret ?_
          refine ret1 rfl rfl (fun w1 hw => ?_)
          first
            | exact ⟨⟨(_, n8, s8), trivial, by assumption, by (try dsimp only); omega, by (try dsimp only); omega⟩, rfl, hw.pick (by apply Pick.app1; (· repeat (first | exact Rem.here | exact Rem.all | exact Rem.hereS | apply Rem.there | apply Rem.thereS)); apply Pick.cons1; (· repeat (first | exact Rem.here | exact Rem.all | exact Rem.hereS | apply Rem.there | apply Rem.thereS)); exact Pick.nil)⟩
            | exact ⟨⟨(_, n15, s15), trivial, by assumption, by (try dsimp only); omega, by (try dsimp only); omega⟩, rfl, hw.pick (by apply Pick.app1; (· repeat (first | exact Rem.here | exact Rem.all | exact Rem.hereS | apply Rem.there | apply Rem.thereS)); apply Pick.cons1; (· repeat (first | exact Rem.here | exact Rem.all | exact Rem.hereS | apply Rem.there | apply Rem.thereS)); exact Pick.nil)⟩
            | exact ⟨⟨(_, n24, s24), trivial, by assumption, by (try dsimp only); omega, by (try dsimp only); omega⟩, rfl, hw.pick (by apply Pick.app1; (· repeat (first | exact Rem.here | exact Rem.all | exact Rem.hereS | apply Rem.there | apply Rem.thereS)); apply Pick.cons1; (· repeat (first | exact Rem.here | exact Rem.all | exact Rem.hereS | apply Rem.there | apply Rem.thereS)); exact Pick.nil)⟩
            | exact ⟨⟨(_, n30, s30), trivial, by assumption, by (try dsimp only); omega, by (try dsimp only); omega⟩, rfl, hw.pick (by apply Pick.app1; (· repeat (first | exact Rem.here | exact Rem.all | exact Rem.hereS | apply Rem.there | apply Rem.thereS)); apply Pick.cons1; (· repeat (first | exact Rem.here | exact Rem.all | exact Rem.hereS | apply Rem.there | apply Rem.thereS)); exact Pick.nil)⟩
            | exact ⟨⟨(_, n37, s37), trivial, by assumption, by (try dsimp only); omega, by (try dsimp only); omega⟩, rfl, hw.pick (by apply Pick.app1; (· repeat (first | exact Rem.here | exact Rem.all | exact Rem.hereS | apply Rem.there | apply Rem.thereS)); apply Pick.cons1; (· repeat (first | exact Rem.here | exact Rem.all | exact Rem.hereS | apply Rem.there | apply Rem.thereS)); exact Pick.nil)⟩
        · skip
          replace h4 := ic_eql' h4
          refine V.skip ?_
          refine VE.block_normal ?_
          refine VE.then_wp ?_
          refine V.seq ?_
          refine V.region ?_
          refine VL.r (.inl rfl) rfl (by decide) (yr_move rfl rfl) ?_
          refine VL.c (.inl rfl) rfl (by decide) (yc_callf rfl known90_Du (.cons rfl .nil) (by apply Pick.one; repeat (first | exact Rem.here | apply Rem.there | apply Rem.thereS)) (c_plain hA hb hl (by (try dsimp only); omega) (by (try dsimp only); omega))) ?_
          rintro ⟨⟨v34, n34, s34⟩, hv34, hs34, hn34, hm34⟩
          dsimp only at hv34 hs34 hn34 hm34
          refine VL.r (.inl rfl) rfl (by decide) (yr_move rfl rfl) ?_
          refine VL.new1 (.inl rfl) rfl (by decide) (yn_lit rfl Tryd.underlying140 elt2_Du rfl (by decide) (.cons rfl (.cons rfl (.cons rfl (.cons rfl .nil)))) (by first | (simp; done) | (simp [cn, cn1, cn0]; done)) rfl rfl rfl) ?_
          intro b36
          refine VL.c (.inl rfl) rfl (by decide) (yc_callf rfl known92_Du (.cons rfl (.cons rfl .nil)) (by apply Pick.e2; all_goals (repeat (first | exact Rem.here | exact Rem.all | exact Rem.hereS | apply Rem.there | apply Rem.thereS))) (c_among (ns := [8388608, 2130706432, 1610612736, 536870912]) (cap := [8388608, 2130706432, 1610612736, 536870912].length * 1) hA hb hl (by (try dsimp only); omega) (by (try dsimp only); omega) (by decide))) ?_
          rintro ⟨⟨v37, n37, s37⟩, hv37, hs37, hn37, hm37⟩
          dsimp only at hv37 hs37 hn37 hm37
          refine VL.q (.inl rfl) rfl (by decide) (yq_callf rfl known91_Du (.cons rfl .nil) (fun w hw => c_fromD)) ?_
          refine VL.r (.inl rfl) rfl (by decide) (yr_float rfl (.inr (.inr (.inl rfl))) rfl rfl) ?_
          refine VL.r (.inl rfl) rfl (by decide) (yr_assign rfl rfl) ?_
          refine VL.nil ?_
          refine VE.then_wp ?_
          refine V.ret ?_
          refine ret1 rfl rfl (fun w1 hw => ?_)
          first
            | exact ⟨⟨(_, n8, s8), trivial, by assumption, by (try dsimp only); omega, by (try dsimp only); omega⟩, rfl, hw.pick (by apply Pick.app1; (· repeat (first | exact Rem.here | exact Rem.all | exact Rem.hereS | apply Rem.there | apply Rem.thereS)); apply Pick.cons1; (· repeat (first | exact Rem.here | exact Rem.all | exact Rem.hereS | apply Rem.there | apply Rem.thereS)); exact Pick.nil)⟩
            | exact ⟨⟨(_, n15, s15), trivial, by assumption, by (try dsimp only); omega, by (try dsimp only); omega⟩, rfl, hw.pick (by apply Pick.app1; (· repeat (first | exact Rem.here | exact Rem.all | exact Rem.hereS | apply Rem.there | apply Rem.thereS)); apply Pick.cons1; (· repeat (first | exact Rem.here | exact Rem.all | exact Rem.hereS | apply Rem.there | apply Rem.thereS)); exact Pick.nil)⟩
            | exact ⟨⟨(_, n24, s24), trivial, by assumption, by (try dsimp only); omega, by (try dsimp only); omega⟩, rfl, hw.pick (by apply Pick.app1; (· repeat (first | exact Rem.here | exact Rem.all | exact Rem.hereS | apply Rem.there | apply Rem.thereS)); apply Pick.cons1; (· repeat (first | exact Rem.here | exact Rem.all | exact Rem.hereS | apply Rem.there | apply Rem.thereS)); exact Pick.nil)⟩
            | exact ⟨⟨(_, n30, s30), trivial, by assumption, by (try dsimp only); omega, by (try dsimp only); omega⟩, rfl, hw.pick (by apply Pick.app1; (· repeat (first | exact Rem.here | exact Rem.all | exact Rem.hereS | apply Rem.there | apply Rem.thereS)); apply Pick.cons1; (· repeat (first | exact Rem.here | exact Rem.all | exact Rem.hereS | apply Rem.there | apply Rem.thereS)); exact Pick.nil)⟩
            | exact ⟨⟨(_, n37, s37), trivial, by assumption, by (try dsimp only); omega, by (try dsimp only); omega⟩, rfl, hw.pick (by apply Pick.app1; (· repeat (first | exact Rem.here | exact Rem.all | exact Rem.hereS | apply Rem.there | apply Rem.thereS)); apply Pick.cons1; (· repeat (first | exact Rem.here | exact Rem.all | exact Rem.hereS | apply Rem.there | apply Rem.thereS)); exact Pick.nil)⟩

theorem c_dvec {w0 : World} {a : Option Addr} {c q n sd : Nat} {bs : List Int} (hA : Cl w0 a (bl bs)) (hb : Bytes bs) (hl : bs.length ≤ 2000000) (hn : n ≤ 99600) (hsd : sd < 18446744073709551616) : Mut Tryd.prog 56 [.pointer (some (adr (some ⟨q, 0, none⟩) 0))] w0 [⟨some ⟨q, 0, none⟩, [.slice a bs.length c, .int .i64 ((n : Nat) : Int), .int .u64 ((sd : Nat) : Int)], 3, 87⟩] (fun x : {x : (Nat × Nat × Nat) × Nat × Nat // (True) ∧ x.2.2 < 18446744073709551616 ∧ n ≤ x.2.1 ∧ x.2.1 ≤ n + 22} => .agg #[.float .f32 x.1.1.1, .float .f32 x.1.1.2.1, .float .f32 x.1.1.2.2]) (fun x => [⟨some ⟨q, 0, none⟩, [.slice a bs.length c, .int .i64 ((x.1.2.1 : Nat) : Int), .int .u64 ((x.1.2.2 : Nat) : Int)], 3, 87⟩]) := by
  refine Mut.enter Tryd.func56 rfl Tryd.ntmps56 (Nat.le_of_ble_eq_true rfl) ?_
  intro F
  refine V.seq ?_
  refine V.region ?_
  refine VL.new1 (.inl rfl) rfl (by decide) (yn_alloc rfl zero101_Du rfl) ?_
  intro b2
  refine VL.nil ?_
  refine VE.then_wp ?_
  refine V.seq ?_
  refine V.region ?_
  refine VL.r (.inl rfl) rfl (by decide) (yr_move rfl rfl) ?_
  refine VL.c (.inl rfl) rfl (by decide) (yc_callf rfl known54_Du (.cons rfl (.cons rfl .nil)) (by apply Pick.one; repeat (first | exact Rem.here | apply Rem.there | apply Rem.thereS)) (c_one (m := 10) hA hb hl (by (try dsimp only); omega) (by (try dsimp only); omega) (by decide) (by decide))) ?_
  rintro ⟨⟨v6, n6, s6⟩, hv6, hs6, hn6, hm6⟩
  dsimp only at hv6 hs6 hn6 hm6
  refine VL.r (.inl rfl) rfl (by decide) (yr_assign rfl rfl) ?_
  refine VL.nil ?_
  refine VE.then_wp ?_
  refine V.seq ?_
  refine V.region ?_
  refine VL.r (.inl rfl) rfl (by decide) (yr_move rfl rfl) ?_
  refine VL.c (.inl rfl) rfl (by decide) (yc_callf rfl known53_Du (.cons rfl .nil) (by apply Pick.one; repeat (first | exact Rem.here | apply Rem.there | apply Rem.thereS)) (c_small hA hb hl (by (try dsimp only); omega) (by (try dsimp only); omega))) ?_
  rintro ⟨⟨v8, n8, s8⟩, hv8, hs8, hn8, hm8⟩
  dsimp only at hv8 hs8 hn8 hm8
  refine VL.r (.inl rfl) rfl (by decide) (yr_build rfl lay101_Du rfl (.cons rfl .nil) (by first | (simp; done) | (simp [vv]; done) | (simp [cn, cn1, cn0]; done)) rfl) ?_
  refine VL.new1 (.inl rfl) rfl (by decide) (yn_alloc rfl zero101_Du rfl) ?_
  intro b4
  refine VL.s (.inl rfl) rfl (yc_store rfl sz101_Du rfl rfl (by repeat (first | exact UpdF.here | apply UpdF.there | apply UpdF.thereS)) (.inr ⟨rfl, rfl⟩) rfl (by first | exact Nat.le_of_ble_eq_true rfl | simp) (by decide) rfl) ?_
  rintro ⟨⟩
  refine VL.nil ?_
  refine VE.then_wp ?_
  refine V.seq ?_
  refine V.region ?_
  refine VL.r (.inl rfl) rfl (by decide) (yr_move rfl rfl) ?_
  refine VL.c (.inl rfl) rfl (by decide) (yc_callf rfl known53_Du (.cons rfl .nil) (by apply Pick.one; repeat (first | exact Rem.here | apply Rem.there | apply Rem.thereS)) (c_small hA hb hl (by (try dsimp only); omega) (by (try dsimp only); omega))) ?_
  rintro ⟨⟨v11, n11, s11⟩, hv11, hs11, hn11, hm11⟩
  dsimp only at hv11 hs11 hn11 hm11
  refine VL.r (.inl rfl) rfl (by decide) (yr_fieldAddr rfl Tryd.underlying101 rfl rfl sz90_Du (by decide) rfl) ?_
  refine VL.s (.inl rfl) rfl (yc_store rfl sz90_Du rfl rfl (by repeat (first | exact UpdF.here | apply UpdF.there | apply UpdF.thereS)) (.inl ⟨rfl, rfl⟩) rfl (by first | exact Nat.le_of_ble_eq_true rfl | simp) (by decide) rfl) ?_
  rintro ⟨⟩
  refine VL.nil ?_
  refine VE.then_wp ?_
  refine V.seq ?_
  refine V.region ?_
  refine VL.r (.inl rfl) rfl (by decide) (yr_move rfl rfl) ?_
  refine VL.c (.inl rfl) rfl (by decide) (yc_callf rfl known53_Du (.cons rfl .nil) (by apply Pick.one; repeat (first | exact Rem.here | apply Rem.there | apply Rem.thereS)) (c_small hA hb hl (by (try dsimp only); omega) (by (try dsimp only); omega))) ?_
  rintro ⟨⟨v14, n14, s14⟩, hv14, hs14, hn14, hm14⟩
  dsimp only at hv14 hs14 hn14 hm14
  refine VL.r (.inl rfl) rfl (by decide) (yr_fieldAddr rfl Tryd.underlying101 rfl rfl sz90_Du (by decide) rfl) ?_
  refine VL.s (.inl rfl) rfl (yc_store rfl sz90_Du rfl rfl (by repeat (first | exact UpdF.here | apply UpdF.there | apply UpdF.thereS)) (.inl ⟨rfl, rfl⟩) rfl (by first | exact Nat.le_of_ble_eq_true rfl | simp) (by decide) rfl) ?_
  rintro ⟨⟩
  refine VL.nil ?_
  refine VE.then_wp ?_
  refine V.seq ?_
  refine V.seq ?_
  refine V.region ?_
  refine VL.r (.inl rfl) rfl (by decide) (yr_move rfl rfl) ?_
  refine VL.nil ?_
  refine VE.then_wp ?_
  refine V.cond rfl (fun h1 => ?_) (fun h1 => ?_)
  · skip
    refine V.region ?_
    refine VL.r (.inl rfl) rfl (by decide) (yr_move rfl rfl) ?_
    refine VL.c (.inl rfl) rfl (by decide) (yc_callf rfl known74_Du (.cons rfl .nil) (by apply Pick.one; repeat (first | exact Rem.here | apply Rem.there | apply Rem.thereS)) (c_dfloat hA hb hl (by (try dsimp only); omega) (by (try dsimp only); omega))) ?_
    rintro ⟨⟨v18, n18, s18⟩, hv18, hs18, hn18, hm18⟩
    dsimp only at hv18 hs18 hn18 hm18
    refine VL.r (.inl rfl) rfl (by decide) (yr_fieldAddr rfl Tryd.underlying101 rfl rfl sz90_Du (by decide) rfl) ?_
    refine VL.s (.inl rfl) rfl (yc_store rfl sz90_Du rfl rfl (by repeat (first | exact UpdF.here | apply UpdF.there | apply UpdF.thereS)) (.inl ⟨rfl, rfl⟩) rfl (by first | exact Nat.le_of_ble_eq_true rfl | simp) (by decide) rfl) ?_
    rintro ⟨⟩
    refine VL.nil ?_
    refine VE.then_wp ?_
    refine V.seq ?_
    refine V.region ?_
    refine VL.q (.inl rfl) rfl (by decide) (yq_loadS rfl Tryd.underlying101 sz101_Du rfl (by first | exact Sees.root (by assumption) | exact Sees.own (by repeat (first | exact List.mem_cons_self | exact List.mem_append_left _ (by assumption) | apply List.mem_cons_of_mem | apply List.mem_append_right)) | exact Sees.root (hR _ (by omega)) | exact Sees.own (RowsIn.mem (by repeat (first | exact RowsIn.here | exact RowsIn.last | apply RowsIn.there | apply RowsIn.thereS)) _ (by omega)) | exact Sees.own (WRowsIn.mem (by repeat (first | exact WRowsIn.here | exact WRowsIn.last | apply WRowsIn.there | apply WRowsIn.thereS)) _ (by omega))) rfl rfl rfl) ?_
    refine VL.s (.inl rfl) rfl (yc_store rfl sz101_Du rfl rfl (by repeat (first | exact UpdF.here | apply UpdF.there | apply UpdF.thereS)) (.inr ⟨rfl, rfl⟩) rfl (by first | exact Nat.le_of_ble_eq_true rfl | simp) (by decide) rfl) ?_
    rintro ⟨⟩
    refine VL.nil ?_
    refine VE.then_wp ?_
    refine V.ret ?_
    refine retC rfl (rv_cellS rfl Tryd.underlying101 sz101_Du (by first | exact Sees.root (by assumption) | exact Sees.own (by repeat (first | exact List.mem_cons_self | exact List.mem_append_left _ (by assumption) | apply List.mem_cons_of_mem | apply List.mem_append_right)) | exact Sees.root (hR _ (by omega)) | exact Sees.own (RowsIn.mem (by repeat (first | exact RowsIn.here | exact RowsIn.last | apply RowsIn.there | apply RowsIn.thereS)) _ (by omega)) | exact Sees.own (WRowsIn.mem (by repeat (first | exact WRowsIn.here | exact WRowsIn.last | apply WRowsIn.there | apply WRowsIn.thereS)) _ (by omega))) rfl rfl rfl) (by nofun) (fun w1 hw => ?_)
    first
      | exact ⟨⟨((v8, v18, v14), n18, s18), trivial, by assumption, by (try dsimp only); omega, by (try dsimp only); omega⟩, rfl, hw.pick (by apply Pick.app1; (· repeat (first | exact Rem.here | exact Rem.all | exact Rem.hereS | apply Rem.there | apply Rem.thereS)); apply Pick.cons1; (· repeat (first | exact Rem.here | exact Rem.all | exact Rem.hereS | apply Rem.there | apply Rem.thereS)); exact Pick.nil)⟩
      | exact ⟨⟨((v8, v11, v14), n14, s14), trivial, by assumption, by (try dsimp only); omega, by (try dsimp only); omega⟩, rfl, hw.pick (by apply Pick.app1; (· repeat (first | exact Rem.here | exact Rem.all | exact Rem.hereS | apply Rem.there | apply Rem.thereS)); apply Pick.cons1; (· repeat (first | exact Rem.here | exact Rem.all | exact Rem.hereS | apply Rem.there | apply Rem.thereS)); exact Pick.nil)⟩
  · skip
    refine V.skip ?_
    refine VE.then_wp ?_
    refine V.seq ?_
    refine V.region ?_
    refine VL.q (.inl rfl) rfl (by decide) (yq_loadS rfl Tryd.underlying101 sz101_Du rfl (by first | exact Sees.root (by assumption) | exact Sees.own (by repeat (first | exact List.mem_cons_self | exact List.mem_append_left _ (by assumption) | apply List.mem_cons_of_mem | apply List.mem_append_right)) | exact Sees.root (hR _ (by omega)) | exact Sees.own (RowsIn.mem (by repeat (first | exact RowsIn.here | exact RowsIn.last | apply RowsIn.there | apply RowsIn.thereS)) _ (by omega)) | exact Sees.own (WRowsIn.mem (by repeat (first | exact WRowsIn.here | exact WRowsIn.last | apply WRowsIn.there | apply WRowsIn.thereS)) _ (by omega))) rfl rfl rfl) ?_
    refine VL.s (.inl rfl) rfl (yc_store rfl sz101_Du rfl rfl (by repeat (first | exact UpdF.here | apply UpdF.there | apply UpdF.thereS)) (.inr ⟨rfl, rfl⟩) rfl (by first | exact Nat.le_of_ble_eq_true rfl | simp) (by decide) rfl) ?_
    rintro ⟨⟩
    refine VL.nil ?_
    refine VE.then_wp ?_
    refine V.ret ?_
    refine retC rfl (rv_cellS rfl Tryd.underlying101 sz101_Du (by first | exact Sees.root (by assumption) | exact Sees.own (by repeat (first | exact List.mem_cons_self | exact List.mem_append_left _ (by assumption) | apply List.mem_cons_of_mem | apply List.mem_append_right)) | exact Sees.root (hR _ (by omega)) | exact Sees.own (RowsIn.mem (by repeat (first | exact RowsIn.here | exact RowsIn.last | apply RowsIn.there | apply RowsIn.thereS)) _ (by omega)) | exact Sees.own (WRowsIn.mem (by repeat (first | exact WRowsIn.here | exact WRowsIn.last | apply WRowsIn.there | apply WRowsIn.thereS)) _ (by omega))) rfl rfl rfl) (by nofun) (fun w1 hw => ?_)
    first
      | exact ⟨⟨((v8, v18, v14), n18, s18), trivial, by assumption, by (try dsimp only); omega, by (try dsimp only); omega⟩, rfl, hw.pick (by apply Pick.app1; (· repeat (first | exact Rem.here | exact Rem.all | exact Rem.hereS | apply Rem.there | apply Rem.thereS)); apply Pick.cons1; (· repeat (first | exact Rem.here | exact Rem.all | exact Rem.hereS | apply Rem.there | apply Rem.thereS)); exact Pick.nil)⟩
      | exact ⟨⟨((v8, v11, v14), n14, s14), trivial, by assumption, by (try dsimp only); omega, by (try dsimp only); omega⟩, rfl, hw.pick (by apply Pick.app1; (· repeat (first | exact Rem.here | exact Rem.all | exact Rem.hereS | apply Rem.there | apply Rem.thereS)); apply Pick.cons1; (· repeat (first | exact Rem.here | exact Rem.all | exact Rem.hereS | apply Rem.there | apply Rem.thereS)); exact Pick.nil)⟩

theorem c_dpole {w0 : World} {a : Option Addr} {c q n sd : Nat} {bs : List Int} (hA : Cl w0 a (bl bs)) (hb : Bytes bs) (hl : bs.length ≤ 2000000) (hn : n ≤ 99500) (hsd : sd < 18446744073709551616) : Mut Tryd.prog 57 [.pointer (some (adr (some ⟨q, 0, none⟩) 0))] w0 [⟨some ⟨q, 0, none⟩, [.slice a bs.length c, .int .i64 ((n : Nat) : Int), .int .u64 ((sd : Nat) : Int)], 3, 87⟩] (fun x : {x : ((Nat × Nat × Nat) × Nat) × Nat × Nat // (True) ∧ x.2.2 < 18446744073709551616 ∧ n ≤ x.2.1 ∧ x.2.1 ≤ n + 40} => .agg #[.float .f32 x.1.1.1.1, .float .f32 x.1.1.1.2.1, .float .f32 x.1.1.1.2.2, .float .f32 x.1.1.2]) (fun x => [⟨some ⟨q, 0, none⟩, [.slice a bs.length c, .int .i64 ((x.1.2.1 : Nat) : Int), .int .u64 ((x.1.2.2 : Nat) : Int)], 3, 87⟩]) := by
  refine Mut.enter Tryd.func57 rfl Tryd.ntmps57 (Nat.le_of_ble_eq_true rfl) ?_
  intro F
  refine V.seq ?_
  refine V.region ?_
  refine VL.new1 (.inl rfl) rfl (by decide) (yn_alloc rfl zero104_Du rfl) ?_
  intro b2
  refine VL.nil ?_
  refine VE.then_wp ?_
  refine V.seq ?_
  refine V.region ?_
  refine VL.r (.inl rfl) rfl (by decide) (yr_move rfl rfl) ?_
  refine VL.c (.inl rfl) rfl (by decide) (yc_callf rfl known56_Du (.cons rfl .nil) (by apply Pick.one; repeat (first | exact Rem.here | apply Rem.there | apply Rem.thereS)) (c_dvec hA hb hl (by (try dsimp only); omega) (by (try dsimp only); omega))) ?_
  rintro ⟨⟨⟨f5, g5, h5⟩, n5, s5⟩, hv5, hs5, hn5, hm5⟩
  dsimp only at hv5 hs5 hn5 hm5
  refine VL.r (.inl rfl) rfl (by decide) (yr_build rfl lay104_Du rfl (.cons rfl .nil) (by first | (simp; done) | (simp [vv]; done) | (simp [cn, cn1, cn0]; done)) rfl) ?_
  refine VL.new1 (.inl rfl) rfl (by decide) (yn_alloc rfl zero104_Du rfl) ?_
  intro b3
  refine VL.s (.inl rfl) rfl (yc_store rfl sz104_Du rfl rfl (by repeat (first | exact UpdF.here | apply UpdF.there | apply UpdF.thereS)) (.inr ⟨rfl, rfl⟩) rfl (by first | exact Nat.le_of_ble_eq_true rfl | simp) (by decide) rfl) ?_
  rintro ⟨⟩
  refine VL.nil ?_
  refine VE.then_wp ?_
  refine V.seq ?_
  refine V.region ?_
  refine VL.r (.inl rfl) rfl (by decide) (yr_move rfl rfl) ?_
  refine VL.c (.inl rfl) rfl (by decide) (yc_callf rfl known53_Du (.cons rfl .nil) (by apply Pick.one; repeat (first | exact Rem.here | apply Rem.there | apply Rem.thereS)) (c_small hA hb hl (by (try dsimp only); omega) (by (try dsimp only); omega))) ?_
  rintro ⟨⟨v8, n8, s8⟩, hv8, hs8, hn8, hm8⟩
  dsimp only at hv8 hs8 hn8 hm8
  refine VL.r (.inl rfl) rfl (by decide) (yr_fieldAddr rfl Tryd.underlying104 rfl rfl sz90_Du (by decide) rfl) ?_
  refine VL.s (.inl rfl) rfl (yc_store rfl sz90_Du rfl rfl (by repeat (first | exact UpdF.here | apply UpdF.there | apply UpdF.thereS)) (.inl ⟨rfl, rfl⟩) rfl (by first | exact Nat.le_of_ble_eq_true rfl | simp) (by decide) rfl) ?_
  rintro ⟨⟩
  refine VL.nil ?_
  refine VE.then_wp ?_
  refine V.seq ?_
  refine V.seq ?_
  refine V.region ?_
  refine VL.r (.inl rfl) rfl (by decide) (yr_move rfl rfl) ?_
  refine VL.c (.inl rfl) rfl (by decide) (yc_callf rfl known54_Du (.cons rfl (.cons rfl .nil)) (by apply Pick.one; repeat (first | exact Rem.here | apply Rem.there | apply Rem.thereS)) (c_one (m := 24) hA hb hl (by (try dsimp only); omega) (by (try dsimp only); omega) (by decide) (by decide))) ?_
  rintro ⟨⟨v11, n11, s11⟩, hv11, hs11, hn11, hm11⟩
  dsimp only at hv11 hs11 hn11 hm11
  refine VL.nil ?_
  refine VE.then_wp ?_
  refine V.cond rfl (fun h1 => ?_) (fun h1 => ?_)
  · skip
    refine V.region ?_
    refine VL.r (.inl rfl) rfl (by decide) (yr_move rfl rfl) ?_
    refine VL.c (.inl rfl) rfl (by decide) (yc_callf rfl known74_Du (.cons rfl .nil) (by apply Pick.one; repeat (first | exact Rem.here | apply Rem.there | apply Rem.thereS)) (c_dfloat hA hb hl (by (try dsimp only); omega) (by (try dsimp only); omega))) ?_
    rintro ⟨⟨v13, n13, s13⟩, hv13, hs13, hn13, hm13⟩
    dsimp only at hv13 hs13 hn13 hm13
    refine VL.r (.inl rfl) rfl (by decide) (yr_fieldAddr rfl Tryd.underlying104 rfl rfl sz90_Du (by decide) rfl) ?_
    refine VL.s (.inl rfl) rfl (yc_store rfl sz90_Du rfl rfl (by repeat (first | exact UpdF.here | apply UpdF.there | apply UpdF.thereS)) (.inl ⟨rfl, rfl⟩) rfl (by first | exact Nat.le_of_ble_eq_true rfl | simp) (by decide) rfl) ?_
    rintro ⟨⟩
    refine VL.nil ?_
    refine VE.then_wp ?_
    refine V.seq ?_
    refine V.region ?_
    refine VL.q (.inl rfl) rfl (by decide) (yq_loadS rfl Tryd.underlying104 sz104_Du rfl (by first | exact Sees.root (by assumption) | exact Sees.own (by repeat (first | exact List.mem_cons_self | exact List.mem_append_left _ (by assumption) | apply List.mem_cons_of_mem | apply List.mem_append_right)) | exact Sees.root (hR _ (by omega)) | exact Sees.own (RowsIn.mem (by repeat (first | exact RowsIn.here | exact RowsIn.last | apply RowsIn.there | apply RowsIn.thereS)) _ (by omega)) | exact Sees.own (WRowsIn.mem (by repeat (first | exact WRowsIn.here | exact WRowsIn.last | apply WRowsIn.there | apply WRowsIn.thereS)) _ (by omega))) rfl rfl rfl) ?_
    refine VL.s (.inl rfl) rfl (yc_store rfl sz104_Du rfl rfl (by repeat (first | exact UpdF.here | apply UpdF.there | apply UpdF.thereS)) (.inr ⟨rfl, rfl⟩) rfl (by first | exact Nat.le_of_ble_eq_true rfl | simp) (by decide) rfl) ?_
    rintro ⟨⟩
    refine VL.nil ?_
    refine VE.then_wp ?_
    refine V.ret ?_
    refine retC rfl (rv_cellS rfl Tryd.underlying104 sz104_Du (by first | exact Sees.root (by assumption) | exact Sees.own (by repeat (first | exact List.mem_cons_self | exact List.mem_append_left _ (by assumption) | apply List.mem_cons_of_mem | apply List.mem_append_right)) | exact Sees.root (hR _ (by omega)) | exact Sees.own (RowsIn.mem (by repeat (first | exact RowsIn.here | exact RowsIn.last | apply RowsIn.there | apply RowsIn.thereS)) _ (by omega)) | exact Sees.own (WRowsIn.mem (by repeat (first | exact WRowsIn.here | exact WRowsIn.last | apply WRowsIn.there | apply WRowsIn.thereS)) _ (by omega))) rfl rfl rfl) (by nofun) (fun w1 hw => ?_)
    first
      | exact ⟨⟨(((f5, g5, h5), v13), n13, s13), trivial, by assumption, by (try dsimp only); omega, by (try dsimp only); omega⟩, rfl, hw.pick (by apply Pick.app1; (· repeat (first | exact Rem.here | exact Rem.all | exact Rem.hereS | apply Rem.there | apply Rem.thereS)); apply Pick.cons1; (· repeat (first | exact Rem.here | exact Rem.all | exact Rem.hereS | apply Rem.there | apply Rem.thereS)); exact Pick.nil)⟩
      | exact ⟨⟨(((f5, g5, h5), v8), n11, s11), trivial, by assumption, by (try dsimp only); omega, by (try dsimp only); omega⟩, rfl, hw.pick (by apply Pick.app1; (· repeat (first | exact Rem.here | exact Rem.all | exact Rem.hereS | apply Rem.there | apply Rem.thereS)); apply Pick.cons1; (· repeat (first | exact Rem.here | exact Rem.all | exact Rem.hereS | apply Rem.there | apply Rem.thereS)); exact Pick.nil)⟩
  · skip
    refine V.skip ?_
    refine VE.then_wp ?_
    refine V.seq ?_
    refine V.region ?_
    refine VL.q (.inl rfl) rfl (by decide) (yq_loadS rfl Tryd.underlying104 sz104_Du rfl (by first | exact Sees.root (by assumption) | exact Sees.own (by repeat (first | exact List.mem_cons_self | exact List.mem_append_left _ (by assumption) | apply List.mem_cons_of_mem | apply List.mem_append_right)) | exact Sees.root (hR _ (by omega)) | exact Sees.own (RowsIn.mem (by repeat (first | exact RowsIn.here | exact RowsIn.last | apply RowsIn.there | apply RowsIn.thereS)) _ (by omega)) | exact Sees.own (WRowsIn.mem (by repeat (first | exact WRowsIn.here | exact WRowsIn.last | apply WRowsIn.there | apply WRowsIn.thereS)) _ (by omega))) rfl rfl rfl) ?_
    refine VL.s (.inl rfl) rfl (yc_store rfl sz104_Du rfl rfl (by repeat (first | exact UpdF.here | apply UpdF.there | apply UpdF.thereS)) (.inr ⟨rfl, rfl⟩) rfl (by first | exact Nat.le_of_ble_eq_true rfl | simp) (by decide) rfl) ?_
    rintro ⟨⟩
    refine VL.nil ?_
    refine VE.then_wp ?_
    refine V.ret ?_
    refine retC rfl (rv_cellS rfl Tryd.underlying104 sz104_Du (by first | exact Sees.root (by assumption) | exact Sees.own (by repeat (first | exact List.mem_cons_self | exact List.mem_append_left _ (by assumption) | apply List.mem_cons_of_mem | apply List.mem_append_right)) | exact Sees.root (hR _ (by omega)) | exact Sees.own (RowsIn.mem (by repeat (first | exact RowsIn.here | exact RowsIn.last | apply RowsIn.there | apply RowsIn.thereS)) _ (by omega)) | exact Sees.own (WRowsIn.mem (by repeat (first | exact WRowsIn.here | exact WRowsIn.last | apply WRowsIn.there | apply WRowsIn.thereS)) _ (by omega))) rfl rfl rfl) (by nofun) (fun w1 hw => ?_)
    first
      | exact ⟨⟨(((f5, g5, h5), v13), n13, s13), trivial, by assumption, by (try dsimp only); omega, by (try dsimp only); omega⟩, rfl, hw.pick (by apply Pick.app1; (· repeat (first | exact Rem.here | exact Rem.all | exact Rem.hereS | apply Rem.there | apply Rem.thereS)); apply Pick.cons1; (· repeat (first | exact Rem.here | exact Rem.all | exact Rem.hereS | apply Rem.there | apply Rem.thereS)); exact Pick.nil)⟩
      | exact ⟨⟨(((f5, g5, h5), v8), n11, s11), trivial, by assumption, by (try dsimp only); omega, by (try dsimp only); omega⟩, rfl, hw.pick (by apply Pick.app1; (· repeat (first | exact Rem.here | exact Rem.all | exact Rem.hereS | apply Rem.there | apply Rem.thereS)); apply Pick.cons1; (· repeat (first | exact Rem.here | exact Rem.all | exact Rem.hereS | apply Rem.there | apply Rem.thereS)); exact Pick.nil)⟩

theorem c_dfield {w0 : World} {a : Option Addr} {c q n sd : Nat} {bs : List Int} (hA : Cl w0 a (bl bs)) (hb : Bytes bs) (hl : bs.length ≤ 2000000) (hn : n ≤ 99600) (hsd : sd < 18446744073709551616) : Mut Tryd.prog 75 [.pointer (some (adr (some ⟨q, 0, none⟩) 0))] w0 [⟨some ⟨q, 0, none⟩, [.slice a bs.length c, .int .i64 ((n : Nat) : Int), .int .u64 ((sd : Nat) : Int)], 3, 87⟩] (fun x : {x : (Nat) × Nat × Nat // (True) ∧ x.2.2 < 18446744073709551616 ∧ n ≤ x.2.1 ∧ x.2.1 ≤ n + 16} => .float .f32 x.1.1) (fun x => [⟨some ⟨q, 0, none⟩, [.slice a bs.length c, .int .i64 ((x.1.2.1 : Nat) : Int), .int .u64 ((x.1.2.2 : Nat) : Int)], 3, 87⟩]) := by
  refine Mut.enter Tryd.func75 rfl Tryd.ntmps75 (Nat.le_of_ble_eq_true rfl) ?_
  intro F
  refine V.seq ?_
  refine V.region ?_
  refine VL.r (.inl rfl) rfl (by decide) (yr_assign (u := .float .f32 0) rfl rfl) ?_
  refine VL.nil ?_
  refine VE.then_wp ?_
  refine V.seq ?_
  refine V.seq ?_
  refine V.region ?_
  refine VL.r (.inl rfl) rfl (by decide) (yr_move rfl rfl) ?_
  refine VL.c (.inl rfl) rfl (by decide) (yc_callf rfl known54_Du (.cons rfl (.cons rfl .nil)) (by apply Pick.one; repeat (first | exact Rem.here | apply Rem.there | apply Rem.thereS)) (c_one (m := 16) hA hb hl (by (try dsimp only); omega) (by (try dsimp only); omega) (by decide) (by decide))) ?_
  rintro ⟨⟨v4, n4, s4⟩, hv4, hs4, hn4, hm4⟩
  dsimp only at hv4 hs4 hn4 hm4
  refine VL.nil ?_
  refine VE.then_wp ?_
  refine V.cond rfl (fun h1 => ?_) (fun h1 => ?_)
  · skip
    refine V.seq ?_
    refine V.region ?_
    refine VL.r (.inl rfl) rfl (by decide) (yr_move rfl rfl) ?_
    refine VL.c (.inl rfl) rfl (by decide) (yc_callf rfl known74_Du (.cons rfl .nil) (by apply Pick.one; repeat (first | exact Rem.here | apply Rem.there | apply Rem.thereS)) (c_dfloat hA hb hl (by (try dsimp only); omega) (by (try dsimp only); omega))) ?_
    rintro ⟨⟨v6, n6, s6⟩, hv6, hs6, hn6, hm6⟩
    dsimp only at hv6 hs6 hn6 hm6
    refine VL.r (.inl rfl) rfl (by decide) (yr_assign rfl rfl) ?_
    refine VL.nil ?_
    refine VE.then_wp ?_
    refine V.ret ?_
    refine VE.then_ret ?_
    refine ret1 rfl rfl (fun w1 hw => ?_)
    first
      | exact ⟨⟨(_, n6, s6), trivial, by assumption, by (try dsimp only); omega, by (try dsimp only); omega⟩, rfl, hw.pick (by apply Pick.app1; (· repeat (first | exact Rem.here | exact Rem.all | exact Rem.hereS | apply Rem.there | apply Rem.thereS)); apply Pick.cons1; (· repeat (first | exact Rem.here | exact Rem.all | exact Rem.hereS | apply Rem.there | apply Rem.thereS)); exact Pick.nil)⟩
      | exact ⟨⟨(_, n8, s8), trivial, by assumption, by (try dsimp only); omega, by (try dsimp only); omega⟩, rfl, hw.pick (by apply Pick.app1; (· repeat (first | exact Rem.here | exact Rem.all | exact Rem.hereS | apply Rem.there | apply Rem.thereS)); apply Pick.cons1; (· repeat (first | exact Rem.here | exact Rem.all | exact Rem.hereS | apply Rem.there | apply Rem.thereS)); exact Pick.nil)⟩
  · skip
    refine V.skip ?_
    refine VE.then_wp ?_
    refine V.seq ?_
    refine V.region ?_
    refine VL.r (.inl rfl) rfl (by decide) (yr_move rfl rfl) ?_
    refine VL.c (.inl rfl) rfl (by decide) (yc_callf rfl known35_Du (.cons rfl (.cons rfl .nil)) (by apply Pick.one; repeat (first | exact Rem.here | apply Rem.there | apply Rem.thereS)) (c_pickG (m := 17) hA hb hl (by (try dsimp only); omega) (by (try dsimp only); omega) (by (try dsimp only); omega) (by (try dsimp only); omega))) ?_
    rintro ⟨⟨x8, n8, s8⟩, hx8, hs8, hn8, hm8⟩
    dsimp only at hx8 hs8 hn8 hm8
    refine VL.r (.inl rfl) rfl (by decide) (yr_int rfl rfl rfl (.inr (.inl ⟨rfl, wrap_in (by (try dsimp only); omega)⟩))) ?_
    refine VL.r (.inl rfl) rfl (by decide) (yr_ofInt rfl Tryd.underlying2 Tryd.underlying90 rfl) ?_
    refine VL.r (.inl rfl) rfl (by decide) (yr_float (b := 1073741824) rfl (.inr (.inr (.inr rfl))) rfl rfl) ?_
    refine VL.r (.inl rfl) rfl (by decide) (yr_assign rfl rfl) ?_
    refine VL.nil ?_
    refine VE.then_wp ?_
    refine V.ret ?_
    refine ret1 rfl rfl (fun w1 hw => ?_)
    first
      | exact ⟨⟨(_, n6, s6), trivial, by assumption, by (try dsimp only); omega, by (try dsimp only); omega⟩, rfl, hw.pick (by apply Pick.app1; (· repeat (first | exact Rem.here | exact Rem.all | exact Rem.hereS | apply Rem.there | apply Rem.thereS)); apply Pick.cons1; (· repeat (first | exact Rem.here | exact Rem.all | exact Rem.hereS | apply Rem.there | apply Rem.thereS)); exact Pick.nil)⟩
      | exact ⟨⟨(_, n8, s8), trivial, by assumption, by (try dsimp only); omega, by (try dsimp only); omega⟩, rfl, hw.pick (by apply Pick.app1; (· repeat (first | exact Rem.here | exact Rem.all | exact Rem.hereS | apply Rem.there | apply Rem.thereS)); apply Pick.cons1; (· repeat (first | exact Rem.here | exact Rem.all | exact Rem.hereS | apply Rem.there | apply Rem.thereS)); exact Pick.nil)⟩

theorem c_dfields {w0 : World} {a : Option Addr} {c q n sd : Nat} {bs : List Int} (hA : Cl w0 a (bl bs)) (hb : Bytes bs) (hl : bs.length ≤ 2000000) (hn : n ≤ 99000) (hsd : sd < 18446744073709551616) : Mut Tryd.prog 63 [.pointer (some (adr (some ⟨q, 0, none⟩) 0))] w0 [⟨some ⟨q, 0, none⟩, [.slice a bs.length c, .int .i64 ((n : Nat) : Int), .int .u64 ((sd : Nat) : Int)], 3, 87⟩] (fun x : {x : ({x : (Option Addr × Nat) × List Nat // x.2.length ≤ 65}) × Nat × Nat // (True) ∧ x.2.2 < 18446744073709551616 ∧ n ≤ x.2.1 ∧ x.2.1 ≤ n + 200} => .slice x.1.1.1.1.1 x.1.1.1.2.length x.1.1.1.1.2) (fun x => [⟨some ⟨q, 0, none⟩, [.slice a bs.length c, .int .i64 ((x.1.2.1 : Nat) : Int), .int .u64 ((x.1.2.2 : Nat) : Int)], 3, 87⟩, ⟨x.1.1.1.1.1, fl x.1.1.1.2, x.1.1.1.1.2 * 1, 90⟩]) := by
  refine Mut.enter Tryd.func63 rfl Tryd.ntmps63 (Nat.le_of_ble_eq_true rfl) ?_
  intro F
  refine V.seq ?_
  refine V.region ?_
  refine VL.r (.inl rfl) rfl (by decide) (yr_assign (u := .slice none 0 0) rfl rfl) ?_
  refine VL.nil ?_
  refine VE.then_wp ?_
  refine V.seq ?_
  refine V.region ?_
  refine VL.new1 (.inl rfl) rfl (by decide) (yn_lit rfl Tryd.underlying39 elt90_Du rfl (by decide) .nil (by first | (simp; done) | (simp [cn, cn1, cn0]; done)) rfl rfl rfl) ?_
  intro b5
  refine VL.r (.inl rfl) rfl (by decide) (yr_assign rfl rfl) ?_
  refine VL.nil ?_
  refine VE.then_wp ?_
  refine V.seq ?_
  refine V.seq ?_
  refine V.region ?_
  refine VL.r (.inl rfl) rfl (by decide) (yr_move rfl rfl) ?_
  refine VL.c (.inl rfl) rfl (by decide) (yc_callf rfl known35_Du (.cons rfl (.cons rfl .nil)) (by apply Pick.one; repeat (first | exact Rem.here | apply Rem.there | apply Rem.thereS)) (c_pickG (m := 9) hA hb hl (by (try dsimp only); omega) (by (try dsimp only); omega) (by (try dsimp only); omega) (by (try dsimp only); omega))) ?_
  rintro ⟨⟨x7, n7, s7⟩, hx7, hs7, hn7, hm7⟩
  dsimp only at hx7 hs7 hn7 hm7
  refine VL.r (.inl rfl) rfl (by decide) (yr_assign rfl rfl) ?_
  refine VL.nil ?_
  refine VE.then_wp ?_
  refine V.block ?_
  refine V.loopc (G := (List Nat) × (Option Addr) × Nat × Nat × Nat) [(0, _)] (fun ⟨xs, ar, cr, nn, sd1⟩ => xs.length ≤ x7 ∧ (n ≤ nn ∧ nn ≤ n + 2 + 16 * xs.length) ∧ sd1 < 18446744073709551616) (fun ⟨xs, ar, cr, nn, sd1⟩ => (⟨ar, fl xs, cr * 1, 90⟩ :: ⟨some ⟨q, 0, none⟩, [.slice a bs.length c, .int .i64 ((nn : Nat) : Int), .int .u64 ((sd1 : Nat) : Int)], 3, 87⟩ :: F)) (fun ⟨xs, ar, cr, nn, sd1⟩ => [(3, .slice ar xs.length cr), (4, .int .i64 ((x7 - xs.length : Nat) : Int))]) (fun ⟨xs, ar, cr, nn, sd1⟩ => x7 - xs.length) ([], some ⟨b5, 0, none⟩, 0, n7, s7) (.cons rfl .nil) (.cons rfl (.cons rfl .nil)) ?_ ?_ ?_
  · exact (fun w hw => by dsimp only; rw [fl_nil]; exact hw.pick (by apply Pick.cons1; (· repeat (first | exact Rem.here | exact Rem.all | exact Rem.hereS | apply Rem.there | apply Rem.thereS)); apply Pick.cons1; (· repeat (first | exact Rem.here | exact Rem.all | exact Rem.hereS | apply Rem.there | apply Rem.thereS)); apply Pick.last; repeat (first | exact Rem.here | exact Rem.all | exact Rem.hereS | apply Rem.there | apply Rem.thereS)))
  · exact (by exact ⟨Nat.zero_le _, ⟨by omega, by (try dsimp only); simp only [List.length_nil]; omega⟩, hs7⟩)
  rintro ⟨xs, ar, cr, nn, sd1⟩ ⟨hl9, hn9, hs9⟩
  show V _ _ _ (⟨ar, fl xs, cr * 1, 90⟩ :: ⟨some ⟨q, 0, none⟩, [.slice a bs.length c, .int .i64 ((nn : Nat) : Int), .int .u64 ((sd1 : Nat) : Int)], 3, 87⟩ :: F) ([(3, .slice ar xs.length cr), (4, .int .i64 ((x7 - xs.length : Nat) : Int))] ++ [(0, _)]) _ _
  refine V.seq ?_
  refine V.seq ?_
  refine V.region ?_
  refine VL.r (.inl rfl) rfl (by decide) (yr_move rfl rfl) ?_
  refine VL.r (.inl rfl) rfl (by decide) (yr_icmp rfl (.inr (.inr (.inr (.inr (.inl rfl))))) rfl rfl) ?_
  refine VL.nil ?_
  refine VE.then_wp ?_
  refine V.cond rfl (fun h1 => ?_) (fun h1 => ?_)
  · skip
    replace h1 := ic_gtr h1
    refine V.skip ?_
    refine VE.then_wp ?_
    refine V.seq ?_
    refine V.block ?_
    refine V.region ?_
    refine VL.r (.inl rfl) rfl (by decide) (yr_move rfl rfl) ?_
    refine VL.r (.inl rfl) rfl (by decide) (yr_move rfl rfl) ?_
    refine VL.c (.inl rfl) rfl (by decide) (yc_callf rfl known75_Du (.cons rfl .nil) (by apply Pick.one; repeat (first | exact Rem.here | apply Rem.there | apply Rem.thereS)) (c_dfield hA hb hl (by (try dsimp only); omega) (by (try dsimp only); omega))) ?_
    rintro ⟨⟨v14, n14, s14⟩, hv14, hs14, hn14, hm14⟩
    dsimp only at hv14 hs14 hn14 hm14
    refine VL.new1 (.inl rfl) rfl (by decide) (yn_lit rfl Tryd.underlying39 elt90_Du rfl (by decide) (.cons rfl .nil) (by first | (simp; done) | (simp [cn, cn1, cn0]; done)) rfl rfl rfl) ?_
    intro b15
    refine VL.c (.inl rfl) rfl (by decide) (yc_appendz 1 rfl rfl Tryd.underlying39 elt90_Du rfl rfl (by repeat (first | exact UpdF.here | apply UpdF.there | apply UpdF.thereS)) (by first | exact Sees.root (by assumption) | exact Sees.own (by repeat (first | exact List.mem_cons_self | exact List.mem_append_left _ (by assumption) | apply List.mem_cons_of_mem | apply List.mem_append_right)) | exact Sees.root (hR _ (by omega)) | exact Sees.own (RowsIn.mem (by repeat (first | exact RowsIn.here | exact RowsIn.last | apply RowsIn.there | apply RowsIn.thereS)) _ (by omega)) | exact Sees.own (WRowsIn.mem (by repeat (first | exact WRowsIn.here | exact WRowsIn.last | apply WRowsIn.there | apply WRowsIn.thereS)) _ (by omega))) rfl (by rw [fl_length, Nat.mul_one]) rfl (by first | rfl | exact fl_scal _) rfl (by omega) (by omega)) ?_
    rintro ⟨a16, c16⟩
    refine VL.r (.inl rfl) rfl (by decide) (yr_assign rfl rfl) ?_
    refine VL.nil ?_
    refine VE.block_normal ?_
    refine VE.then_wp ?_
    refine V.region ?_
    refine VL.r (.inl rfl) rfl (by decide) (yr_move rfl rfl) ?_
    refine VL.r (.inl rfl) rfl (by decide) (yr_int rfl rfl rfl (.inr (.inl ⟨rfl, wrap_in (by (try dsimp only); omega)⟩))) ?_
    refine VL.r (.inl rfl) rfl (by decide) (yr_assign rfl rfl) ?_
    refine VL.nil ?_
    refine VE.round (xs ++ [v14], a16, c16, n14, s14) ?_ ?_ ?_ ?_ ?_
    · exact (.cons (congrArg (fun n => some (Value.slice _ n _)) (by first | rfl | (rw [List.length_append]; rfl))) (.cons (congrArg (fun i => some (Value.int .i64 i)) (by rw [List.length_append]; show _ = ((x7 - (xs.length + 1) : Nat) : Int); omega)) .nil))
    · exact (.cons rfl .nil)
    · exact (fun w hw => by dsimp only; rw [← fl_snoc]; exact hw.pick (by apply Pick.cons1; (· repeat (first | exact Rem.here | exact Rem.all | exact Rem.hereS | apply Rem.there | apply Rem.thereS)); apply Pick.cons1; (· repeat (first | exact Rem.here | exact Rem.all | exact Rem.hereS | apply Rem.there | apply Rem.thereS)); apply Pick.last; repeat (first | exact Rem.here | exact Rem.all | exact Rem.hereS | apply Rem.there | apply Rem.thereS)))
    · dsimp only
      simp only [List.length_append, List.length_cons, List.length_nil, Nat.zero_add]
      exact ⟨by omega, ⟨by omega, by omega⟩, hs14⟩
    · dsimp only; rw [List.length_append]; show x7 - (xs.length + 1) < x7 - xs.length; omega
  · skip
    replace h1 := ic_gtr' h1
    refine V.exit ?_
    refine VE.then_exit ?_
    refine VE.then_exit ?_
    refine VE.block_here ?_
    refine VE.then_wp ?_
    refine V.seq ?_
    refine V.seq ?_
    refine V.region ?_
    refine VL.r (.inl rfl) rfl (by decide) (yr_move rfl rfl) ?_
    refine VL.c (.inl rfl) rfl (by decide) (yc_callf rfl known54_Du (.cons rfl (.cons rfl .nil)) (by apply Pick.one; repeat (first | exact Rem.here | apply Rem.there | apply Rem.thereS)) (c_one (m := 30) hA hb hl (by (try dsimp only); omega) (by (try dsimp only); omega) (by decide) (by decide))) ?_
    rintro ⟨⟨v18, n18, s18⟩, hv18, hs18, hn18, hm18⟩
    dsimp only at hv18 hs18 hn18 hm18
    refine VL.nil ?_
    refine VE.then_wp ?_
    refine V.cond rfl (fun h2 => ?_) (fun h2 => ?_)
    · skip
      refine V.region ?_
      refine VL.r (.inl rfl) rfl (by decide) (yr_move rfl rfl) ?_
      refine VL.c (.inl rfl) rfl (by decide) (yc_callf rfl known35_Du (.cons rfl (.cons rfl .nil)) (by apply Pick.one; repeat (first | exact Rem.here | apply Rem.there | apply Rem.thereS)) (c_pickG (m := 2) hA hb hl (by (try dsimp only); omega) (by (try dsimp only); omega) (by (try dsimp only); omega) (by (try dsimp only); omega))) ?_
      rintro ⟨⟨x20, n20, s20⟩, hx20, hs20, hn20, hm20⟩
      dsimp only at hx20 hs20 hn20 hm20
      refine VL.r (.inl rfl) rfl (by decide) (yr_addN (64 + x20) rfl rfl rfl (by push_cast; rfl) (by omega)) ?_
      refine VL.new1 (.inl rfl) rfl (by decide) (yn_makeSlicez 1 rfl rfl Tryd.underlying39 elt90_Du rfl rfl rfl (by omega) (by omega)) ?_
      intro b22
      refine VL.r (.inl rfl) rfl (by decide) (yr_assign rfl rfl) ?_
      refine VL.nil ?_
      refine VE.then_wp ?_
      refine V.seq ?_
      refine V.region ?_
      refine VL.r (.inl rfl) rfl (by decide) (yr_move rfl rfl) ?_
      refine VL.r (.inl rfl) rfl (by decide) (yr_assign rfl rfl) ?_
      refine VL.nil ?_
      refine VE.then_wp ?_
      refine V.ret ?_
      refine ret1 rfl rfl (fun w1 hw => ?_)
      rw [fl_zeros] at hw
      exact ⟨⟨(⟨((some ⟨b22, 0, none⟩, 64 + x20), List.replicate (64 + x20) 0), by rw [List.length_replicate]; omega⟩, n20, s20), trivial, by assumption, by (try dsimp only); omega, by (try dsimp only); omega⟩, congrArg (fun z => Value.slice (some ⟨b22, 0, none⟩) z (64 + x20)) (List.length_replicate (n := 64 + x20) (a := 0)).symm, hw.pick (by apply Pick.app1; (· repeat (first | exact Rem.here | exact Rem.all | exact Rem.hereS | apply Rem.there | apply Rem.thereS)); apply Pick.cons1; (· repeat (first | exact Rem.here | exact Rem.all | exact Rem.hereS | apply Rem.there | apply Rem.thereS)); apply Pick.cons1; (· repeat (first | exact Rem.here | exact Rem.all | exact Rem.hereS | apply Rem.there | apply Rem.thereS)); exact Pick.nil)⟩
    · skip
      refine V.skip ?_
      refine VE.then_wp ?_
      refine V.seq ?_
      refine V.region ?_
      refine VL.r (.inl rfl) rfl (by decide) (yr_move rfl rfl) ?_
      refine VL.r (.inl rfl) rfl (by decide) (yr_assign rfl rfl) ?_
      refine VL.nil ?_
      refine VE.then_wp ?_
      refine V.ret ?_
      refine ret1 rfl rfl (fun w1 hw => ?_)
      exact ⟨⟨(⟨((ar, cr), xs), by show xs.length ≤ 65; omega⟩, n18, s18), trivial, by assumption, by (try dsimp only); omega, by (try dsimp only); omega⟩, rfl, hw.pick (by apply Pick.app1; (· repeat (first | exact Rem.here | exact Rem.all | exact Rem.hereS | apply Rem.there | apply Rem.thereS)); apply Pick.cons1; (· repeat (first | exact Rem.here | exact Rem.all | exact Rem.hereS | apply Rem.there | apply Rem.thereS)); apply Pick.cons1; (· repeat (first | exact Rem.here | exact Rem.all | exact Rem.hereS | apply Rem.there | apply Rem.thereS)); exact Pick.nil)⟩

end Go.Proofs.YtmecikeaogjmpaaDoor

