/- Own texts of this claim, merged: WPkA, WPkM, WPkS, WPk, Text, WUnA, Sharp, SharpB, SharpC, Unp, Narrow, UnpB, UnpC, UnpD, UnpE. -/
import Derived.KernelRfl
import Derived.Test.YtnommdpgmoljcaaKFnExactRoundMesh3
namespace Go.Proofs.Ytnommdpgmoljcaa
open Go.RowKit
set_option linter.unusedVariables false
set_option linter.unusedSimpArgs false
set_option maxRecDepth 20000

theorem ext139_PkA : ExtF Try.prog 139 Extern.MathFloatBits.float32bits := ⟨_, Try.func139, by kernel_rfl, by kernel_rfl, by kernel_rfl, by kernel_rfl⟩
theorem ext129_PkA : ExtF Try.prog 129 Extern.MathFloatBits.float64bits := ⟨_, Try.func129, by kernel_rfl, by kernel_rfl, by kernel_rfl, by kernel_rfl⟩
theorem ext128_PkA : ExtF Try.prog 128 Extern.MathFloatBits.float64frombits := ⟨_, Try.func128, by kernel_rfl, by kernel_rfl, by kernel_rfl, by kernel_rfl⟩
theorem known130_PkA : Known Try.prog 130 := Known.mk' Try.func130 (by kernel_rfl)
theorem elt5_PkA : Elt Try.prog 5 [Value.int .u8 0] 1 := Elt.mk' (by kernel_rfl) (by decide)
theorem sz23_PkA : (Try.prog.info? 23).map (·.size) = some 1 := by kernel_rfl
theorem fb23_PkA : flatB Try.prog 23 = true := by kernel_rfl
theorem elt23_PkA : Elt Try.prog 23 [Value.float .f32 0] 4 := Elt.mk' (by kernel_rfl) (by decide)
theorem known138_PkA : Known Try.prog 138 := Known.mk' Try.func138 (by kernel_rfl)
theorem sz28_PkA : (Try.prog.info? 28).map (·.size) = some 1 := by kernel_rfl
theorem fb28_PkA : flatB Try.prog 28 = true := by kernel_rfl
theorem sz27_PkA : (Try.prog.info? 27).map (·.size) = some 3 := by kernel_rfl
theorem known127_PkA : Known Try.prog 127 := Known.mk' Try.func127 (by kernel_rfl)
theorem known80_PkA : Known Try.prog 80 := Known.mk' Try.func80 (by kernel_rfl)
attribute [local irreducible] fop fcmp fconv fneg fabs List.getD scN num fround qf qI

theorem c_bitsI {w : World} {x : Nat} (hx : Can .f32 x) : Pure Try.prog 130 [.float .f32 x] w (.int .i64 (x : Int)) := by
  refine Pure.enter Try.func130 rfl Try.ntmps130 (Nat.le_of_ble_eq_true rfl) ?_
  have hlt : x < 4294967296 := Nat.lt_of_lt_of_le hx.lt (by decide)
  refine V.seq ?_
  refine V.region ?_
  refine VL.r (.inl rfl) rfl (by decide) (yr_assign (u := .int .i64 0) rfl rfl) ?_
  refine VL.nil ?_
  refine VE.then_wp ?_
  refine V.seq ?_
  refine V.seq ?_
  refine V.region ?_
  refine VL.r (.inl rfl) rfl (by decide) (yr_move rfl rfl) ?_
  refine VL.r (.inl rfl) rfl (by decide) (yr_move rfl rfl) ?_
  refine VL.r (.inl rfl) rfl (by decide) (yr_fcmp rfl (.inr (.inl rfl)) rfl rfl) ?_
  refine VL.nil ?_
  refine VE.then_wp ?_
  refine V.cond rfl (fun h1 => ?_) (fun h1 => ?_)
  · skip
    rw [fne_self] at h1
    refine V.seq ?_
    refine V.region ?_
    refine VL.r (.inl rfl) rfl (by decide) (yr_assign (u := .int .i64 2143289344) rfl rfl) ?_
    refine VL.nil ?_
    refine VE.then_wp ?_
    refine V.ret ?_
    refine VE.then_ret ?_
    refine ret1 rfl rfl (fun w1 hw => ?_)
    exact ⟨by rw [hx.nan h1]; rfl, hw.below⟩
  · skip
    rw [fne_self] at h1
    refine V.skip ?_
    refine VE.then_wp ?_
    refine V.seq ?_
    refine V.region ?_
    refine VL.r (.inl rfl) rfl (by decide) (yr_move rfl rfl) ?_
    refine VL.q (.inl rfl) rfl (by decide) (yq_ext rfl ext139_PkA (.cons rfl .nil) (fun vs w h => ext_bits32 vs w (by assumption) h)) ?_
    refine VL.r (.inl rfl) rfl (by decide) (yr_intConv rfl Try.underlying117 Try.underlying2 rfl (wrap_in (by omega))) ?_
    refine VL.r (.inl rfl) rfl (by decide) (yr_assign rfl rfl) ?_
    refine VL.nil ?_
    refine VE.then_wp ?_
    refine V.ret ?_
    refine ret1 rfl rfl (fun w1 hw => ?_)
    exact ⟨rfl, hw.below⟩

theorem c_bitsS {w : World} {x : Nat} (hx : Can .f32 x) : Pure Try.prog 138 [.float .f32 x] w (.int .i64 (x : Int)) := by
  refine Pure.enter Try.func138 rfl Try.ntmps138 (Nat.le_of_ble_eq_true rfl) ?_
  have hlt : x < 4294967296 := Nat.lt_of_lt_of_le hx.lt (by decide)
  refine V.seq ?_
  refine V.region ?_
  refine VL.r (.inl rfl) rfl (by decide) (yr_assign (u := .int .i64 0) rfl rfl) ?_
  refine VL.nil ?_
  refine VE.then_wp ?_
  refine V.seq ?_
  refine V.seq ?_
  refine V.region ?_
  refine VL.r (.inl rfl) rfl (by decide) (yr_move rfl rfl) ?_
  refine VL.r (.inl rfl) rfl (by decide) (yr_move rfl rfl) ?_
  refine VL.r (.inl rfl) rfl (by decide) (yr_fcmp rfl (.inr (.inl rfl)) rfl rfl) ?_
  refine VL.nil ?_
  refine VE.then_wp ?_
  refine V.cond rfl (fun h1 => ?_) (fun h1 => ?_)
  · skip
    rw [fne_self] at h1
    refine V.seq ?_
    refine V.region ?_
    refine VL.r (.inl rfl) rfl (by decide) (yr_assign (u := .int .i64 2143289344) rfl rfl) ?_
    refine VL.nil ?_
    refine VE.then_wp ?_
    refine V.ret ?_
    refine VE.then_ret ?_
    refine ret1 rfl rfl (fun w1 hw => ?_)
    exact ⟨by rw [hx.nan h1]; rfl, hw.below⟩
  · skip
    rw [fne_self] at h1
    refine V.skip ?_
    refine VE.then_wp ?_
    refine V.seq ?_
    refine V.region ?_
    refine VL.r (.inl rfl) rfl (by decide) (yr_move rfl rfl) ?_
    refine VL.q (.inl rfl) rfl (by decide) (yq_ext rfl ext139_PkA (.cons rfl .nil) (fun vs w h => ext_bits32 vs w (by assumption) h)) ?_
    refine VL.r (.inl rfl) rfl (by decide) (yr_intConv rfl Try.underlying117 Try.underlying2 rfl (wrap_in (by omega))) ?_
    refine VL.r (.inl rfl) rfl (by decide) (yr_assign rfl rfl) ?_
    refine VL.nil ?_
    refine VE.then_wp ?_
    refine V.ret ?_
    refine ret1 rfl rfl (fun w1 hw => ?_)
    exact ⟨rfl, hw.below⟩

theorem c_absP {w : World} (x : Nat) : Pure Try.prog 98 [.float .f64 x] w (.float .f64 (fabs .f64 x)) := by
  refine Pure.enter Try.func98 rfl Try.ntmps98 (Nat.le_of_ble_eq_true rfl) ?_
  refine V.seq ?_
  refine V.region ?_
  refine VL.r (.inl rfl) rfl (by decide) (yr_assign (u := .float .f64 0) rfl rfl) ?_
  refine VL.nil ?_
  refine VE.then_wp ?_
  refine V.seq ?_
  refine V.region ?_
  refine VL.r (.inl rfl) rfl (by decide) (yr_move rfl rfl) ?_
  refine VL.new (.inl rfl) rfl (by decide) (extN rfl ext129_PkA (.cons rfl .nil) (fun vs w h => ext_bitsN h)) ?_
  rintro ⟨b4, hb4⟩
  refine VL.r (.inl rfl) rfl (by decide) (yr_andNot63 rfl rfl rfl) ?_
  refine VL.q (.inl rfl) rfl (by decide) (yq_ext rfl ext128_PkA (.cons rfl .nil) (fun vs w h => ext_from64 vs w h)) ?_
  refine VL.r (.inl rfl) rfl (by decide) (yr_assign rfl rfl) ?_
  refine VL.nil ?_
  refine VE.then_wp ?_
  refine V.ret ?_
  refine ret1 rfl rfl (fun w1 hw => ?_)
  exact ⟨congrArg (Value.float .f64) (by rw [cb_abs64, hb4]), hw.below⟩

theorem c_fourB {w0 : World} {a : Option Addr} {c x : Nat} {bs : List Int} (hx : Can .f32 x) (hn : bs.length ≤ 100000) : Mut Try.prog 99 [.slice a bs.length c, .float .f32 x] w0 [⟨a, bl bs, c * 1, 5⟩] (fun p : Option Addr × Nat => .slice p.1 (bs ++ four x).length p.2) (fun p => [⟨p.1, bl (bs ++ four x), p.2 * 1, 5⟩]) := by
  refine Mut.enter Try.func99 rfl Try.ntmps99 (Nat.le_of_ble_eq_true rfl) ?_
  intro F
  refine V.seq ?_
  refine V.region ?_
  refine VL.r (.inl rfl) rfl (by decide) (yr_assign (u := .slice none 0 0) rfl rfl) ?_
  refine VL.nil ?_
  refine VE.then_wp ?_
  refine V.seq ?_
  refine V.region ?_
  refine VL.r (.inl rfl) rfl (by decide) (yr_move rfl rfl) ?_
  refine VL.q (.inl rfl) rfl (by decide) (yq_callf rfl known130_PkA (.cons rfl .nil) (fun w hw => (c_bitsI (by assumption)))) ?_
  refine VL.r (.inl rfl) rfl (by decide) (yr_assign rfl rfl) ?_
  refine VL.nil ?_
  refine VE.then_wp ?_
  refine V.seq ?_
  refine V.seq ?_
  refine V.region ?_
  refine VL.r (.inl rfl) rfl (by decide) (yr_move (u := .int .i64 0) rfl rfl) ?_
  refine VL.nil ?_
  refine VE.then_wp ?_
  refine V.block ?_
  refine V.loopc (G := Nat × (Option Addr) × Nat) [] (fun ⟨i, ar, cr⟩ => i ≤ 4 ∧ True) (fun ⟨i, ar, cr⟩ => (F ++ [⟨ar, bl (bs ++ fourK x i), cr * 1, 5⟩])) (fun ⟨i, ar, cr⟩ => [(0, .slice ar (bs.length + i) cr), (5, .int .i64 ((x / 256 ^ i : Nat) : Int)), (8, .int .i64 (i : Int))]) (fun ⟨i, ar, cr⟩ => 4 - i) (0, a, c) .nil (.cons rfl (.cons (congrArg (fun i => some (Value.int .i64 i)) (by rw [Nat.pow_zero, Nat.div_one])) (.cons rfl .nil))) ?_ ?_ ?_
  · exact (fun w hw => by dsimp only; rw [show fourK x 0 = [] from rfl, List.append_nil]; exact hw)
  · exact (by exact ⟨Nat.zero_le _, trivial⟩)
  rintro ⟨i, ar, cr⟩ ⟨hi9, _⟩
  show V _ _ _ (F ++ [⟨ar, bl (bs ++ fourK x i), cr * 1, 5⟩]) ([(0, .slice ar (bs.length + i) cr), (5, .int .i64 ((x / 256 ^ i : Nat) : Int)), (8, .int .i64 (i : Int))] ++ []) _ _
  refine V.seq ?_
  refine V.region ?_
  refine VL.r (.inl rfl) rfl (by decide) (yr_icmp rfl (.inr (.inr (.inl rfl))) rfl rfl) ?_
  refine VL.nil ?_
  refine VE.then_wp ?_
  refine V.seq ?_
  refine V.cond rfl (fun h1 => ?_) (fun h1 => ?_)
  · skip
    replace h1 := ic_lss h1
    refine V.skip ?_
    refine VE.then_wp ?_
    refine V.seq ?_
    refine V.block ?_
    refine V.seq ?_
    refine V.region ?_
    refine VL.r (.inl rfl) rfl (by decide) (yr_move rfl rfl) ?_
    refine VL.r (.inl rfl) rfl (by decide) (yr_move rfl rfl) ?_
    refine VL.r (.inl rfl) rfl (by decide) (yr_intConv (r := w8 _) rfl Try.underlying2 Try.underlying5 rfl rfl) ?_
    refine VL.new1 (.inl rfl) rfl (by decide) (yn_lit rfl Try.underlying50 elt5_PkA rfl (by decide) (.cons rfl .nil) (by first | (simp; done) | (simp [cn, cn1, cn0]; done)) rfl rfl rfl) ?_
    intro b13
    refine VL.c (.inl rfl) rfl (by decide) (yc_appendz 1 rfl rfl Try.underlying50 elt5_PkA rfl rfl (by repeat (first | exact UpdF.here | apply UpdF.there | apply UpdF.thereS)) (by first | exact Sees.root (by assumption) | exact Sees.own (by repeat (first | exact List.mem_cons_self | exact List.mem_append_left _ (by assumption) | apply List.mem_cons_of_mem | apply List.mem_append_right)) | exact Sees.root (hR _ (by omega)) | exact Sees.own (RowsIn.mem (by repeat (first | exact RowsIn.here | exact RowsIn.last | apply RowsIn.there | apply RowsIn.thereS)) _ (by omega)) | exact Sees.own (WRowsIn.mem (by repeat (first | exact WRowsIn.here | exact WRowsIn.last | apply WRowsIn.there | apply WRowsIn.thereS)) _ (by omega))) rfl (by rw [bl_length, List.length_append, fourK_length, Nat.mul_one]) rfl (bl_scal _) rfl (by omega) (by omega)) ?_
    rintro ⟨a14, c14⟩
    refine VL.r (.inl rfl) rfl (by decide) (yr_assign rfl rfl) ?_
    refine VL.nil ?_
    refine VE.then_wp ?_
    refine V.region ?_
    refine VL.r (.inl rfl) rfl (by decide) (yr_move rfl rfl) ?_
    refine VL.r (.inl rfl) rfl (by decide) (yr_shr (b := 8) (r := ((x / 256 ^ i / 2 ^ 8 : Nat) : Int)) rfl rfl rfl (shr8 _ _ 8 (by decide) rfl)) ?_
    refine VL.r (.inl rfl) rfl (by decide) (yr_assign rfl rfl) ?_
    refine VL.nil ?_
    refine VE.block_normal ?_
    refine VE.then_wp ?_
    refine V.region ?_
    refine VL.r (.inl rfl) rfl (by decide) (yr_int rfl rfl rfl (.inl ⟨rfl, wrap_in (by omega)⟩)) ?_
    refine VL.r (.inl rfl) rfl (by decide) (yr_move rfl rfl) ?_
    refine VL.nil ?_
    refine VE.round (i + 1, a14, c14) ?_ ?_ ?_ ?_ ?_
    · exact (.cons rfl (.cons (congrArg (fun i => some (Value.int .i64 i)) (by rw [four_next])) (.cons rfl .nil)))
    · exact .nil
    · exact (fun w hw => by have h9 := hw.sub (List.sublist_cons_self _ _); dsimp only; rw [← bl_snoc]; exact h9)
    · exact ⟨by omega, trivial⟩
    · (try dsimp only); omega
  · skip
    replace h1 := ic_lss' h1
    refine V.exit ?_
    refine VE.then_exit ?_
    refine VE.then_exit ?_
    refine VE.block_here ?_
    refine VE.then_wp ?_
    refine V.seq ?_
    refine V.region ?_
    refine VL.r (.inl rfl) rfl (by decide) (yr_move rfl rfl) ?_
    refine VL.r (.inl rfl) rfl (by decide) (yr_assign rfl rfl) ?_
    refine VL.nil ?_
    refine VE.then_wp ?_
    refine V.ret ?_
    refine ret1 rfl rfl (fun w1 hw => ?_)
    obtain rfl : i = 4 := by omega
    rw [fourK_all] at hw
    exact ⟨(ar, cr), by rw [List.length_append]; rfl, hw⟩

theorem c_nums {w : World} {x1 x2 x3 : Nat} : New Try.prog 96 [vv (x1, x2, x3)] w (fun p : Nat => .slice (some ⟨p, 0, none⟩) 3 3) (fun p => [⟨some ⟨p, 0, none⟩, fl [x1, x2, x3], 3 * 1, 23⟩]) := by
  refine New.enter Try.func96 rfl Try.ntmps96 (Nat.le_of_ble_eq_true rfl) ?_
  refine V.seq ?_
  refine V.region ?_
  refine VL.new1 (.inl rfl) rfl (by decide) (yn_box rfl rfl (.inr ⟨rfl, rfl⟩)) ?_
  intro b1
  refine VL.r (.inl rfl) rfl (by decide) (yr_assign (u := .slice none 0 0) rfl rfl) ?_
  refine VL.nil ?_
  refine VE.then_wp ?_
  refine V.seq ?_
  refine V.region ?_
  refine VL.r (.inl rfl) rfl (by decide) (yr_fieldAddr rfl Try.underlying27 rfl rfl sz23_PkA (by decide) rfl) ?_
  refine VL.q (.inl rfl) rfl (by decide) (yq_load rfl fb23_PkA rfl (by first | exact Sees.root (by assumption) | exact Sees.own (by repeat (first | exact List.mem_cons_self | exact List.mem_append_left _ (by assumption) | apply List.mem_cons_of_mem | apply List.mem_append_right)) | exact Sees.root (hR _ (by omega)) | exact Sees.own (RowsIn.mem (by repeat (first | exact RowsIn.here | exact RowsIn.last | apply RowsIn.there | apply RowsIn.thereS)) _ (by omega)) | exact Sees.own (WRowsIn.mem (by repeat (first | exact WRowsIn.here | exact WRowsIn.last | apply WRowsIn.there | apply WRowsIn.thereS)) _ (by omega))) rfl) ?_
  refine VL.r (.inl rfl) rfl (by decide) (yr_fieldAddr rfl Try.underlying27 rfl rfl sz23_PkA (by decide) rfl) ?_
  refine VL.q (.inl rfl) rfl (by decide) (yq_load rfl fb23_PkA rfl (by first | exact Sees.root (by assumption) | exact Sees.own (by repeat (first | exact List.mem_cons_self | exact List.mem_append_left _ (by assumption) | apply List.mem_cons_of_mem | apply List.mem_append_right)) | exact Sees.root (hR _ (by omega)) | exact Sees.own (RowsIn.mem (by repeat (first | exact RowsIn.here | exact RowsIn.last | apply RowsIn.there | apply RowsIn.thereS)) _ (by omega)) | exact Sees.own (WRowsIn.mem (by repeat (first | exact WRowsIn.here | exact WRowsIn.last | apply WRowsIn.there | apply WRowsIn.thereS)) _ (by omega))) rfl) ?_
  refine VL.r (.inl rfl) rfl (by decide) (yr_fieldAddr rfl Try.underlying27 rfl rfl sz23_PkA (by decide) rfl) ?_
  refine VL.q (.inl rfl) rfl (by decide) (yq_load rfl fb23_PkA rfl (by first | exact Sees.root (by assumption) | exact Sees.own (by repeat (first | exact List.mem_cons_self | exact List.mem_append_left _ (by assumption) | apply List.mem_cons_of_mem | apply List.mem_append_right)) | exact Sees.root (hR _ (by omega)) | exact Sees.own (RowsIn.mem (by repeat (first | exact RowsIn.here | exact RowsIn.last | apply RowsIn.there | apply RowsIn.thereS)) _ (by omega)) | exact Sees.own (WRowsIn.mem (by repeat (first | exact WRowsIn.here | exact WRowsIn.last | apply WRowsIn.there | apply WRowsIn.thereS)) _ (by omega))) rfl) ?_
  refine VL.new1 (.inl rfl) rfl (by decide) (yn_lit rfl Try.underlying86 elt23_PkA rfl (by decide) (.cons rfl (.cons rfl (.cons rfl .nil))) (by first | (simp; done) | (simp [cn, cn1, cn0]; done)) rfl rfl rfl) ?_
  intro b9
  refine VL.r (.inl rfl) rfl (by decide) (yr_assign rfl rfl) ?_
  refine VL.nil ?_
  refine VE.then_wp ?_
  refine V.ret ?_
  refine ret1 rfl rfl (fun w1 hw => ?_)
  exact ⟨b9, rfl, hw.out1⟩

theorem c_part {w : World} {x1 x2 x3 : Nat} {j : Nat} (hj : j < 3) : Pure Try.prog 127 [vv (x1, x2, x3), .int .i64 (j : Int)] w (.float .f32 (part3 (x1, x2, x3) j)) := by
  refine Pure.enter Try.func127 rfl Try.ntmps127 (Nat.le_of_ble_eq_true rfl) ?_
  refine V.seq ?_
  refine V.region ?_
  refine VL.new1 (.inl rfl) rfl (by decide) (yn_box rfl rfl (.inr ⟨rfl, rfl⟩)) ?_
  intro b2
  refine VL.r (.inl rfl) rfl (by decide) (yr_assign (u := .float .f32 0) rfl rfl) ?_
  refine VL.nil ?_
  refine VE.then_wp ?_
  refine V.seq ?_
  refine V.seq ?_
  refine V.region ?_
  refine VL.r (.inl rfl) rfl (by decide) (yr_move rfl rfl) ?_
  refine VL.nil ?_
  refine VE.then_wp ?_
  refine V.block ?_
  refine V.seq ?_
  refine V.region ?_
  refine VL.r (.inl rfl) rfl (by decide) (yr_icmp rfl (.inl rfl) rfl rfl) ?_
  refine VL.r (.inl rfl) rfl (by decide) (yr_assign rfl rfl) ?_
  refine VL.nil ?_
  refine VE.then_wp ?_
  refine V.cond rfl (fun h1 => ?_) (fun h1 => ?_)
  · skip
    replace h1 := ic_eql h1
    refine V.seq ?_
    refine V.region ?_
    refine VL.r (.inl rfl) rfl (by decide) (yr_fieldAddr rfl Try.underlying27 rfl rfl sz23_PkA (by decide) rfl) ?_
    refine VL.q (.inl rfl) rfl (by decide) (yq_load rfl fb23_PkA rfl (by first | exact Sees.root (by assumption) | exact Sees.own (by repeat (first | exact List.mem_cons_self | exact List.mem_append_left _ (by assumption) | apply List.mem_cons_of_mem | apply List.mem_append_right)) | exact Sees.root (hR _ (by omega)) | exact Sees.own (RowsIn.mem (by repeat (first | exact RowsIn.here | exact RowsIn.last | apply RowsIn.there | apply RowsIn.thereS)) _ (by omega)) | exact Sees.own (WRowsIn.mem (by repeat (first | exact WRowsIn.here | exact WRowsIn.last | apply WRowsIn.there | apply WRowsIn.thereS)) _ (by omega))) rfl) ?_
    refine VL.r (.inl rfl) rfl (by decide) (yr_assign rfl rfl) ?_
    refine VL.nil ?_
    refine VE.then_wp ?_
    refine V.ret ?_
    refine VE.block_ret ?_
    refine VE.then_ret ?_
    refine ret1 rfl rfl (fun w1 hw => ?_)
    first
      | (obtain rfl : j = 0 := by omega
         exact ⟨rfl, hw.below⟩)
      | (obtain rfl : j = 1 := by omega
         exact ⟨rfl, hw.below⟩)
      | (obtain rfl : j = 2 := by omega
         exact ⟨rfl, hw.below⟩)
  · skip
    replace h1 := ic_eql' h1
    refine V.seq ?_
    refine V.region ?_
    refine VL.r (.inl rfl) rfl (by decide) (yr_icmp rfl (.inl rfl) rfl rfl) ?_
    refine VL.r (.inl rfl) rfl (by decide) (yr_assign rfl rfl) ?_
    refine VL.nil ?_
    refine VE.then_wp ?_
    refine V.cond rfl (fun h2 => ?_) (fun h2 => ?_)
    · skip
      replace h2 := ic_eql h2
      refine V.seq ?_
      refine V.region ?_
      refine VL.r (.inl rfl) rfl (by decide) (yr_fieldAddr rfl Try.underlying27 rfl rfl sz23_PkA (by decide) rfl) ?_
      refine VL.q (.inl rfl) rfl (by decide) (yq_load rfl fb23_PkA rfl (by first | exact Sees.root (by assumption) | exact Sees.own (by repeat (first | exact List.mem_cons_self | exact List.mem_append_left _ (by assumption) | apply List.mem_cons_of_mem | apply List.mem_append_right)) | exact Sees.root (hR _ (by omega)) | exact Sees.own (RowsIn.mem (by repeat (first | exact RowsIn.here | exact RowsIn.last | apply RowsIn.there | apply RowsIn.thereS)) _ (by omega)) | exact Sees.own (WRowsIn.mem (by repeat (first | exact WRowsIn.here | exact WRowsIn.last | apply WRowsIn.there | apply WRowsIn.thereS)) _ (by omega))) rfl) ?_
      refine VL.r (.inl rfl) rfl (by decide) (yr_assign rfl rfl) ?_
      refine VL.nil ?_
      refine VE.then_wp ?_
      refine V.ret ?_
      refine VE.block_ret ?_
      refine VE.then_ret ?_
      refine ret1 rfl rfl (fun w1 hw => ?_)
      first
        | (obtain rfl : j = 0 := by omega
           exact ⟨rfl, hw.below⟩)
        | (obtain rfl : j = 1 := by omega
           exact ⟨rfl, hw.below⟩)
        | (obtain rfl : j = 2 := by omega
           exact ⟨rfl, hw.below⟩)
    · skip
      replace h2 := ic_eql' h2
      refine V.skip ?_
      refine VE.block_normal ?_
      refine VE.then_wp ?_
      refine V.seq ?_
      refine V.region ?_
      refine VL.r (.inl rfl) rfl (by decide) (yr_fieldAddr rfl Try.underlying27 rfl rfl sz23_PkA (by decide) rfl) ?_
      refine VL.q (.inl rfl) rfl (by decide) (yq_load rfl fb23_PkA rfl (by first | exact Sees.root (by assumption) | exact Sees.own (by repeat (first | exact List.mem_cons_self | exact List.mem_append_left _ (by assumption) | apply List.mem_cons_of_mem | apply List.mem_append_right)) | exact Sees.root (hR _ (by omega)) | exact Sees.own (RowsIn.mem (by repeat (first | exact RowsIn.here | exact RowsIn.last | apply RowsIn.there | apply RowsIn.thereS)) _ (by omega)) | exact Sees.own (WRowsIn.mem (by repeat (first | exact WRowsIn.here | exact WRowsIn.last | apply WRowsIn.there | apply WRowsIn.thereS)) _ (by omega))) rfl) ?_
      refine VL.r (.inl rfl) rfl (by decide) (yr_assign rfl rfl) ?_
      refine VL.nil ?_
      refine VE.then_wp ?_
      refine V.ret ?_
      refine ret1 rfl rfl (fun w1 hw => ?_)
      first
        | (obtain rfl : j = 0 := by omega
           exact ⟨rfl, hw.below⟩)
        | (obtain rfl : j = 1 := by omega
           exact ⟨rfl, hw.below⟩)
        | (obtain rfl : j = 2 := by omega
           exact ⟨rfl, hw.below⟩)

theorem c_four {w : World} {x : Nat} (hx : Can .f32 x) : New Try.prog 126 [.float .f32 x] w (fun p : Nat => .slice (some ⟨p, 0, none⟩) 4 4) (fun p => [⟨some ⟨p, 0, none⟩, bl (four x), 4 * 1, 5⟩]) := by
  refine New.enter Try.func126 rfl Try.ntmps126 (Nat.le_of_ble_eq_true rfl) ?_
  refine V.seq ?_
  refine V.region ?_
  refine VL.r (.inl rfl) rfl (by decide) (yr_assign (u := .slice none 0 0) rfl rfl) ?_
  refine VL.nil ?_
  refine VE.then_wp ?_
  refine V.seq ?_
  refine V.region ?_
  refine VL.r (.inl rfl) rfl (by decide) (yr_move rfl rfl) ?_
  refine VL.q (.inl rfl) rfl (by decide) (yq_callf rfl known138_PkA (.cons rfl .nil) (fun w hw => (c_bitsS (by assumption)))) ?_
  refine VL.r (.inl rfl) rfl (by decide) (yr_assign rfl rfl) ?_
  refine VL.nil ?_
  refine VE.then_wp ?_
  refine V.seq ?_
  refine V.region ?_
  refine VL.r (.inl rfl) rfl (by decide) (yr_move rfl rfl) ?_
  refine VL.r (.inl rfl) rfl (by decide) (yr_bits rfl rfl rfl (.inl ⟨rfl, and255 _⟩)) ?_
  refine VL.r (.inl rfl) rfl (by decide) (yr_intConv (r := w8 (x : Int)) rfl Try.underlying2 Try.underlying5 rfl (w8_255 _)) ?_
  refine VL.r (.inl rfl) rfl (by decide) (yr_move rfl rfl) ?_
  refine VL.r (.inl rfl) rfl (by decide) (yr_shr (b := 8) (r := ((x / 256 : Nat) : Int)) rfl rfl rfl (shr8 x _ 8 (by decide) rfl)) ?_
  refine VL.r (.inl rfl) rfl (by decide) (yr_bits rfl rfl rfl (.inl ⟨rfl, and255 _⟩)) ?_
  refine VL.r (.inl rfl) rfl (by decide) (yr_intConv (r := w8 ((x / 256 : Nat) : Int)) rfl Try.underlying2 Try.underlying5 rfl (w8_255 _)) ?_
  refine VL.r (.inl rfl) rfl (by decide) (yr_move rfl rfl) ?_
  refine VL.r (.inl rfl) rfl (by decide) (yr_shr (b := 16) (r := ((x / 65536 : Nat) : Int)) rfl rfl rfl (shr8 x _ 16 (by decide) rfl)) ?_
  refine VL.r (.inl rfl) rfl (by decide) (yr_bits rfl rfl rfl (.inl ⟨rfl, and255 _⟩)) ?_
  refine VL.r (.inl rfl) rfl (by decide) (yr_intConv (r := w8 ((x / 65536 : Nat) : Int)) rfl Try.underlying2 Try.underlying5 rfl (w8_255 _)) ?_
  refine VL.r (.inl rfl) rfl (by decide) (yr_move rfl rfl) ?_
  refine VL.r (.inl rfl) rfl (by decide) (yr_shr (b := 24) (r := ((x / 16777216 : Nat) : Int)) rfl rfl rfl (shr8 x _ 24 (by decide) rfl)) ?_
  refine VL.r (.inl rfl) rfl (by decide) (yr_bits rfl rfl rfl (.inl ⟨rfl, and255 _⟩)) ?_
  refine VL.r (.inl rfl) rfl (by decide) (yr_intConv (r := w8 ((x / 16777216 : Nat) : Int)) rfl Try.underlying2 Try.underlying5 rfl (w8_255 _)) ?_
  refine VL.new1 (.inl rfl) rfl (by decide) (yn_lit rfl Try.underlying50 elt5_PkA rfl (by decide) (.cons rfl (.cons rfl (.cons rfl (.cons rfl .nil)))) (by first | (simp; done) | (simp [cn, cn1, cn0]; done)) rfl rfl rfl) ?_
  intro b21
  refine VL.r (.inl rfl) rfl (by decide) (yr_assign rfl rfl) ?_
  refine VL.nil ?_
  refine VE.then_wp ?_
  refine V.ret ?_
  refine ret1 rfl rfl (fun w1 hw => ?_)
  exact ⟨b21, rfl, hw.out1⟩

theorem c_scale {w : World} {q : Option Addr} {f1 f2 f3 st : Nat} {wi hi de : Int} {a : Option Addr} {c : Nat} {vs : List V3} (hQ : Cl w q [.float .f32 f1, .float .f32 f2, .float .f32 f3, .float .f32 st, .int .i64 wi, .int .i64 hi, .int .i64 de, .slice a vs.length c]) (hA : Cl w a (vl vs)) (hX : Cans3 vs) (hn : vs.length ≤ 1000) : Pure Try.prog 125 [.pointer (some (adr q 0))] w (.tuple #[.float .f32 (if allF vs (vs.length * 3) then scU vs (vs.length * 3) else 0), .bool (allF vs (vs.length * 3))]) := by
  refine Pure.enter Try.func125 rfl Try.ntmps125 (Nat.le_of_ble_eq_true rfl) ?_
  refine V.seq ?_
  refine V.region ?_
  refine VL.r (.inl rfl) rfl (by decide) (yr_assign (u := .float .f32 0) rfl rfl) ?_
  refine VL.r (.inl rfl) rfl (by decide) (yr_assign (u := .bool false) rfl rfl) ?_
  refine VL.nil ?_
  refine VE.then_wp ?_
  refine V.seq ?_
  refine V.region ?_
  refine VL.r (.inl rfl) rfl (by decide) (yr_assign (u := .float .f32 0) rfl rfl) ?_
  refine VL.nil ?_
  refine VE.then_wp ?_
  refine V.seq ?_
  refine V.seq ?_
  refine V.region ?_
  refine VL.r (.inl rfl) rfl (by decide) (yr_assign (u := .int .i64 0) rfl rfl) ?_
  refine VL.nil ?_
  refine VE.then_wp ?_
  refine V.block ?_
  refine V.loopc (G := Nat) [(0, _)] (fun (i : Nat) => i ≤ vs.length ∧ allF vs (i * 3) = true) (fun (i : Nat) => []) (fun (i : Nat) => [(4, .float .f32 (scU vs (i * 3))), (5, .int .i64 (i : Int))]) (fun (i : Nat) => vs.length - i) 0 (.cons rfl .nil) (.cons (congrArg (fun n => some (Value.float .f32 n)) (by rw [Nat.zero_mul]; rfl)) (.cons rfl .nil)) ?_ ?_ ?_
  · exact (fun w hw => hw)
  · exact (by exact ⟨Nat.zero_le _, by rw [Nat.zero_mul]; rfl⟩)
  rintro i ⟨hi9, hia⟩
  show V _ _ _ [] ([(4, .float .f32 (scU vs (i * 3))), (5, .int .i64 (i : Int))] ++ [(0, _)]) _ _
  refine V.seq ?_
  refine V.seq ?_
  refine V.region ?_
  refine VL.r (.inl rfl) rfl (by decide) (yr_move rfl rfl) ?_
  refine VL.r (.inl rfl) rfl (by decide) (yr_move rfl rfl) ?_
  refine VL.r (.inl rfl) rfl (by decide) (yr_nilCheck rfl rfl) ?_
  refine VL.r (.inl rfl) rfl (by decide) (yr_fieldAddr rfl Try.underlying30 rfl rfl sz28_PkA (by decide) rfl) ?_
  refine VL.q (.inl rfl) rfl (by decide) (yq_load rfl fb28_PkA rfl (by first | exact Sees.root (by assumption) | exact Sees.own (by repeat (first | exact List.mem_cons_self | exact List.mem_append_left _ (by assumption) | apply List.mem_cons_of_mem | apply List.mem_append_right)) | exact Sees.root (hR _ (by omega)) | exact Sees.own (RowsIn.mem (by repeat (first | exact RowsIn.here | exact RowsIn.last | apply RowsIn.there | apply RowsIn.thereS)) _ (by omega)) | exact Sees.own (WRowsIn.mem (by repeat (first | exact WRowsIn.here | exact WRowsIn.last | apply WRowsIn.there | apply WRowsIn.thereS)) _ (by omega))) rfl) ?_
  refine VL.r (.inl rfl) rfl (by decide) (yr_len rfl Try.underlying28 rfl) ?_
  refine VL.r (.inl rfl) rfl (by decide) (yr_icmp rfl (.inr (.inr (.inl rfl))) rfl rfl) ?_
  refine VL.nil ?_
  refine VE.then_wp ?_
  refine V.cond rfl (fun h1 => ?_) (fun h1 => ?_)
  · skip
    replace h1 := ic_lss h1
    refine V.skip ?_
    refine VE.then_wp ?_
    refine V.seq ?_
    refine V.block ?_
    refine V.seq ?_
    refine V.region ?_
    refine VL.r (.inl rfl) rfl (by decide) (yr_assign (u := .int .i64 0) rfl rfl) ?_
    refine VL.nil ?_
    refine VE.then_wp ?_
    refine V.block ?_
    refine V.loopc (G := Nat) [(0, _), (5, _)] (fun (j : Nat) => j ≤ 3 ∧ allF vs (i * 3 + j) = true) (fun (j : Nat) => []) (fun (j : Nat) => [(4, .float .f32 (scU vs (i * 3 + j))), (6, .int .i64 (j : Int))]) (fun (j : Nat) => 3 - j) 0 (.cons rfl (.cons rfl .nil)) (.cons rfl (.cons rfl .nil)) ?_ ?_ ?_
    · exact (fun w hw => hw)
    · exact (by exact ⟨Nat.zero_le _, hia⟩)
    rintro j ⟨hj, hja⟩
    show V _ _ _ [] ([(4, .float .f32 (scU vs (i * 3 + j))), (6, .int .i64 (j : Int))] ++ [(0, _), (5, _)]) _ _
    refine V.seq ?_
    refine V.seq ?_
    refine V.region ?_
    refine VL.r (.inl rfl) rfl (by decide) (yr_move rfl rfl) ?_
    refine VL.r (.inl rfl) rfl (by decide) (yr_icmp rfl (.inr (.inr (.inl rfl))) rfl rfl) ?_
    refine VL.nil ?_
    refine VE.then_wp ?_
    refine V.cond rfl (fun h2 => ?_) (fun h2 => ?_)
    · skip
      replace h2 := ic_lss h2
      refine V.skip ?_
      refine VE.then_wp ?_
      refine V.seq ?_
      refine V.block ?_
      refine V.seq ?_
      refine V.region ?_
      refine VL.r (.inl rfl) rfl (by decide) (yr_move rfl rfl) ?_
      refine VL.r (.inl rfl) rfl (by decide) (yr_nilCheck rfl rfl) ?_
      refine VL.r (.inl rfl) rfl (by decide) (yr_fieldAddr rfl Try.underlying30 rfl rfl sz28_PkA (by decide) rfl) ?_
      refine VL.q (.inl rfl) rfl (by decide) (yq_load rfl fb28_PkA rfl (by first | exact Sees.root (by assumption) | exact Sees.own (by repeat (first | exact List.mem_cons_self | exact List.mem_append_left _ (by assumption) | apply List.mem_cons_of_mem | apply List.mem_append_right)) | exact Sees.root (hR _ (by omega)) | exact Sees.own (RowsIn.mem (by repeat (first | exact RowsIn.here | exact RowsIn.last | apply RowsIn.there | apply RowsIn.thereS)) _ (by omega)) | exact Sees.own (WRowsIn.mem (by repeat (first | exact WRowsIn.here | exact WRowsIn.last | apply WRowsIn.there | apply WRowsIn.thereS)) _ (by omega))) rfl) ?_
      refine VL.r (.inl rfl) rfl (by decide) (yr_move rfl rfl) ?_
      refine VL.q (.inl rfl) rfl (by decide) (yq_idxN (k := i) rfl Try.underlying28 sz27_PkA rfl rfl (by first | exact Sees.root (by assumption) | exact Sees.own (by repeat (first | exact List.mem_cons_self | exact List.mem_append_left _ (by assumption) | apply List.mem_cons_of_mem | apply List.mem_append_right)) | exact Sees.root (hR _ (by omega)) | exact Sees.own (RowsIn.mem (by repeat (first | exact RowsIn.here | exact RowsIn.last | apply RowsIn.there | apply RowsIn.thereS)) _ (by omega)) | exact Sees.own (WRowsIn.mem (by repeat (first | exact WRowsIn.here | exact WRowsIn.last | apply WRowsIn.there | apply WRowsIn.thereS)) _ (by omega))) (by first | rfl | omega | (push_cast; rfl) | (push_cast; omega) | exact tmod_nat _ _) (by exact vl_length _) (by decide) (by omega)) ?_
      refine VL.q (.inl rfl) rfl (by decide) (yq_loadV rfl Try.underlying27 sz27_PkA rfl (by first | exact Sees.root (by assumption) | exact Sees.own (by repeat (first | exact List.mem_cons_self | exact List.mem_append_left _ (by assumption) | apply List.mem_cons_of_mem | apply List.mem_append_right)) | exact Sees.root (hR _ (by omega)) | exact Sees.own (RowsIn.mem (by repeat (first | exact RowsIn.here | exact RowsIn.last | apply RowsIn.there | apply RowsIn.thereS)) _ (by omega)) | exact Sees.own (WRowsIn.mem (by repeat (first | exact WRowsIn.here | exact WRowsIn.last | apply WRowsIn.there | apply WRowsIn.thereS)) _ (by omega))) (by omega)) ?_
      refine VL.r (.inl rfl) rfl (by decide) (yr_move rfl rfl) ?_
      refine VL.q (.inl rfl) rfl (by decide) (yq_callf rfl known127_PkA (.cons rfl (.cons rfl .nil)) (fun w hw => (c_part (j := j) (by omega)))) ?_
      refine VL.r (.inl rfl) rfl (by decide) (yr_assign rfl rfl) ?_
      refine VL.nil ?_
      refine VE.then_wp ?_
      refine V.seq ?_
      refine V.seq ?_
      refine V.region ?_
      refine VL.r (.inl rfl) rfl (by decide) (yr_move rfl rfl) ?_
      refine VL.q (.inl rfl) rfl (by decide) (yq_callf rfl known80_PkA (.cons rfl .nil) (fun w hw => c_l01Finite _)) ?_
      refine VL.r (.inl rfl) rfl (by decide) (yr_not rfl rfl) ?_
      refine VL.nil ?_
      refine VE.then_wp ?_
      refine V.cond rfl (fun h3 => ?_) (fun h3 => ?_)
      · skip
        replace h3 := bnot_t h3
        refine V.seq ?_
        refine V.region ?_
        refine VL.r (.inl rfl) rfl (by decide) (yr_assign (u := .float .f32 0) rfl rfl) ?_
        refine VL.r (.inl rfl) rfl (by decide) (yr_assign (u := .bool false) rfl rfl) ?_
        refine VL.nil ?_
        refine VE.then_wp ?_
        refine V.ret ?_
        refine VE.then_ret ?_
        refine VE.block_ret ?_
        refine VE.then_ret ?_
        refine VE.then_ret ?_
        refine VE.block_ret ?_
        refine VE.block_ret ?_
        refine VE.then_ret ?_
        refine VE.then_ret ?_
        refine VE.block_ret ?_
        refine VE.then_ret ?_
        refine ret2 rfl rfl rfl (by nofun) (by nofun) (fun w1 hw => ?_)
        first
          | (obtain rfl : i = vs.length := by omega
             exact ⟨by rw [hia]; rfl, hw.below⟩)
          | (have h8 : allF vs (vs.length * 3) = false := allF_no hja (by rw [(num_part (vs := vs) (i := i) (j := j) (by omega))]; assumption) (by omega)
             exact ⟨by rw [h8]; rfl, hw.below⟩)
      · skip
        replace h3 := bnot_f h3
        refine V.skip ?_
        refine VE.then_wp ?_
        refine V.seq ?_
        refine V.seq ?_
        refine V.region ?_
        refine VL.r (.inl rfl) rfl (by decide) (yr_move rfl rfl) ?_
        refine VL.r (.inl rfl) rfl (by decide) (yr_fcmp (b := 0) rfl (.inr (.inr (.inl rfl))) rfl rfl) ?_
        refine VL.nil ?_
        refine VE.then_wp ?_
        refine V.cond rfl (fun h4 => ?_) (fun h4 => ?_)
        · skip
          refine V.region ?_
          refine VL.r (.inl rfl) rfl (by decide) (yr_move rfl rfl) ?_
          refine VL.r (.inl rfl) rfl (by decide) (yr_fneg rfl rfl) ?_
          refine VL.r (.inl rfl) rfl (by decide) (yr_assign rfl rfl) ?_
          refine VL.nil ?_
          refine VE.then_wp ?_
          refine V.seq ?_
          refine V.region ?_
          refine VL.r (.inl rfl) rfl (by decide) (yr_move rfl rfl) ?_
          refine VL.r (.inl rfl) rfl (by decide) (yr_move rfl rfl) ?_
          refine VL.r (.inl rfl) rfl (by decide) (yr_fcmp rfl (.inr (.inr (.inr (.inr (.inl rfl))))) rfl rfl) ?_
          refine VL.nil ?_
          refine VE.then_wp ?_
          refine V.cond rfl (fun h5 => ?_) (fun h5 => ?_)
          · skip
            refine V.region ?_
            refine VL.r (.inl rfl) rfl (by decide) (yr_move rfl rfl) ?_
            refine VL.r (.inl rfl) rfl (by decide) (yr_assign rfl rfl) ?_
            refine VL.nil ?_
            refine VE.block_normal ?_
            refine VE.then_wp ?_
            refine V.region ?_
            refine VL.r (.inl rfl) rfl (by decide) (yr_move rfl rfl) ?_
            refine VL.r (.inl rfl) rfl (by decide) (yr_int rfl rfl rfl (.inl ⟨rfl, wrap_in (by omega)⟩)) ?_
            refine VL.r (.inl rfl) rfl (by decide) (yr_assign rfl rfl) ?_
            refine VL.nil ?_
            refine VE.round (j + 1) ?_ ?_ ?_ ?_ ?_
            · exact (.cons (congrArg (fun n => some (Value.float .f32 n)) (by first | exact scU_n1 (num_part (vs := vs) (i := i) (j := j) (by omega)) (can_part (hX.row (by omega))) (by assumption) (by assumption) (by assumption) | exact scU_n0 (num_part (vs := vs) (i := i) (j := j) (by omega)) (can_part (hX.row (by omega))) (by assumption) (by assumption) (by assumption) | exact scU_p1 hja (num_part (vs := vs) (i := i) (j := j) (by omega)) (can_part (hX.row (by omega))) (by assumption) (by assumption) (by assumption) | exact scU_p0 hja (num_part (vs := vs) (i := i) (j := j) (by omega)) (can_part (hX.row (by omega))) (by assumption) (by assumption) (by assumption))) (.cons rfl .nil))
            · exact (.cons rfl (.cons rfl .nil))
            · exact (fun w hw => hw)
            · exact ⟨by omega, allF_s hja (num_part (vs := vs) (i := i) (j := j) (by omega)) (by assumption)⟩
            · (try dsimp only); omega
          · skip
            refine V.skip ?_
            refine VE.block_normal ?_
            refine VE.then_wp ?_
            refine V.region ?_
            refine VL.r (.inl rfl) rfl (by decide) (yr_move rfl rfl) ?_
            refine VL.r (.inl rfl) rfl (by decide) (yr_int rfl rfl rfl (.inl ⟨rfl, wrap_in (by omega)⟩)) ?_
            refine VL.r (.inl rfl) rfl (by decide) (yr_assign rfl rfl) ?_
            refine VL.nil ?_
            refine VE.round (j + 1) ?_ ?_ ?_ ?_ ?_
            · exact (.cons (congrArg (fun n => some (Value.float .f32 n)) (by first | exact scU_n1 (num_part (vs := vs) (i := i) (j := j) (by omega)) (can_part (hX.row (by omega))) (by assumption) (by assumption) (by assumption) | exact scU_n0 (num_part (vs := vs) (i := i) (j := j) (by omega)) (can_part (hX.row (by omega))) (by assumption) (by assumption) (by assumption) | exact scU_p1 hja (num_part (vs := vs) (i := i) (j := j) (by omega)) (can_part (hX.row (by omega))) (by assumption) (by assumption) (by assumption) | exact scU_p0 hja (num_part (vs := vs) (i := i) (j := j) (by omega)) (can_part (hX.row (by omega))) (by assumption) (by assumption) (by assumption))) (.cons rfl .nil))
            · exact (.cons rfl (.cons rfl .nil))
            · exact (fun w hw => hw)
            · exact ⟨by omega, allF_s hja (num_part (vs := vs) (i := i) (j := j) (by omega)) (by assumption)⟩
            · (try dsimp only); omega
        · skip
          refine V.skip ?_
          refine VE.then_wp ?_
          refine V.seq ?_
          refine V.region ?_
          refine VL.r (.inl rfl) rfl (by decide) (yr_move rfl rfl) ?_
          refine VL.r (.inl rfl) rfl (by decide) (yr_move rfl rfl) ?_
          refine VL.r (.inl rfl) rfl (by decide) (yr_fcmp rfl (.inr (.inr (.inr (.inr (.inl rfl))))) rfl rfl) ?_
          refine VL.nil ?_
          refine VE.then_wp ?_
          refine V.cond rfl (fun h6 => ?_) (fun h6 => ?_)
          · skip
            refine V.region ?_
            refine VL.r (.inl rfl) rfl (by decide) (yr_move rfl rfl) ?_
            refine VL.r (.inl rfl) rfl (by decide) (yr_assign rfl rfl) ?_
            refine VL.nil ?_
            refine VE.block_normal ?_
            refine VE.then_wp ?_
            refine V.region ?_
            refine VL.r (.inl rfl) rfl (by decide) (yr_move rfl rfl) ?_
            refine VL.r (.inl rfl) rfl (by decide) (yr_int rfl rfl rfl (.inl ⟨rfl, wrap_in (by omega)⟩)) ?_
            refine VL.r (.inl rfl) rfl (by decide) (yr_assign rfl rfl) ?_
            refine VL.nil ?_
            refine VE.round (j + 1) ?_ ?_ ?_ ?_ ?_
            · exact (.cons (congrArg (fun n => some (Value.float .f32 n)) (by first | exact scU_n1 (num_part (vs := vs) (i := i) (j := j) (by omega)) (can_part (hX.row (by omega))) (by assumption) (by assumption) (by assumption) | exact scU_n0 (num_part (vs := vs) (i := i) (j := j) (by omega)) (can_part (hX.row (by omega))) (by assumption) (by assumption) (by assumption) | exact scU_p1 hja (num_part (vs := vs) (i := i) (j := j) (by omega)) (can_part (hX.row (by omega))) (by assumption) (by assumption) (by assumption) | exact scU_p0 hja (num_part (vs := vs) (i := i) (j := j) (by omega)) (can_part (hX.row (by omega))) (by assumption) (by assumption) (by assumption))) (.cons rfl .nil))
            · exact (.cons rfl (.cons rfl .nil))
            · exact (fun w hw => hw)
            · exact ⟨by omega, allF_s hja (num_part (vs := vs) (i := i) (j := j) (by omega)) (by assumption)⟩
            · (try dsimp only); omega
          · skip
            refine V.skip ?_
            refine VE.block_normal ?_
            refine VE.then_wp ?_
            refine V.region ?_
            refine VL.r (.inl rfl) rfl (by decide) (yr_move rfl rfl) ?_
            refine VL.r (.inl rfl) rfl (by decide) (yr_int rfl rfl rfl (.inl ⟨rfl, wrap_in (by omega)⟩)) ?_
            refine VL.r (.inl rfl) rfl (by decide) (yr_assign rfl rfl) ?_
            refine VL.nil ?_
            refine VE.round (j + 1) ?_ ?_ ?_ ?_ ?_
            · exact (.cons (congrArg (fun n => some (Value.float .f32 n)) (by first | exact scU_n1 (num_part (vs := vs) (i := i) (j := j) (by omega)) (can_part (hX.row (by omega))) (by assumption) (by assumption) (by assumption) | exact scU_n0 (num_part (vs := vs) (i := i) (j := j) (by omega)) (can_part (hX.row (by omega))) (by assumption) (by assumption) (by assumption) | exact scU_p1 hja (num_part (vs := vs) (i := i) (j := j) (by omega)) (can_part (hX.row (by omega))) (by assumption) (by assumption) (by assumption) | exact scU_p0 hja (num_part (vs := vs) (i := i) (j := j) (by omega)) (can_part (hX.row (by omega))) (by assumption) (by assumption) (by assumption))) (.cons rfl .nil))
            · exact (.cons rfl (.cons rfl .nil))
            · exact (fun w hw => hw)
            · exact ⟨by omega, allF_s hja (num_part (vs := vs) (i := i) (j := j) (by omega)) (by assumption)⟩
            · (try dsimp only); omega
    · skip
      replace h2 := ic_lss' h2
      refine V.exit ?_
      refine VE.then_exit ?_
      refine VE.then_exit ?_
      refine VE.block_here ?_
      refine VE.block_normal ?_
      refine VE.then_wp ?_
      refine V.region ?_
      refine VL.r (.inl rfl) rfl (by decide) (yr_move rfl rfl) ?_
      refine VL.r (.inl rfl) rfl (by decide) (yr_int rfl rfl rfl (.inl ⟨rfl, wrap_in (by omega)⟩)) ?_
      refine VL.r (.inl rfl) rfl (by decide) (yr_assign rfl rfl) ?_
      refine VL.nil ?_
      refine VE.round (i + 1) ?_ ?_ ?_ ?_ ?_
      · exact (.cons (congrArg (fun n => some (Value.float .f32 n)) (by rw [show (i + 1) * 3 = i * 3 + j by omega])) (.cons rfl .nil))
      · exact (.cons rfl .nil)
      · exact (fun w hw => hw)
      · exact ⟨by omega, by rw [show (i + 1) * 3 = i * 3 + j by omega]; exact hja⟩
      · (try dsimp only); omega
  · skip
    replace h1 := ic_lss' h1
    refine V.exit ?_
    refine VE.then_exit ?_
    refine VE.then_exit ?_
    refine VE.block_here ?_
    refine VE.then_wp ?_
    refine V.seq ?_
    refine V.region ?_
    refine VL.r (.inl rfl) rfl (by decide) (yr_move rfl rfl) ?_
    refine VL.r (.inl rfl) rfl (by decide) (yr_assign rfl rfl) ?_
    refine VL.r (.inl rfl) rfl (by decide) (yr_assign (u := .bool true) rfl rfl) ?_
    refine VL.nil ?_
    refine VE.then_wp ?_
    refine V.ret ?_
    refine ret2 rfl rfl rfl (by nofun) (by nofun) (fun w1 hw => ?_)
    first
      | (obtain rfl : i = vs.length := by omega
         exact ⟨by rw [hia]; rfl, hw.below⟩)
      | (have h8 : allF vs (vs.length * 3) = false := allF_no hja (by rw [(num_part (vs := vs) (i := i) (j := j) (by omega))]; assumption) (by omega)
         exact ⟨by rw [h8]; rfl, hw.below⟩)

end Go.Proofs.Ytnommdpgmoljcaa


namespace Go.Proofs.Ytnommdpgmoljcaa
open Go.RowKit
set_option linter.unusedVariables false
set_option linter.unusedSimpArgs false
set_option maxRecDepth 20000

theorem sz28_PkM : (Try.prog.info? 28).map (·.size) = some 1 := by kernel_rfl
theorem fb28_PkM : flatB Try.prog 28 = true := by kernel_rfl
theorem sz27_PkM : (Try.prog.info? 27).map (·.size) = some 3 := by kernel_rfl
theorem zero27_PkM : (Try.prog.info? 27).bind (·.zero) = some (Value.agg #[Value.float .f32 0, Value.float .f32 0, Value.float .f32 0]) := by kernel_rfl
theorem known96_PkM : Known Try.prog 96 := Known.mk' Try.func96 (by kernel_rfl)
theorem sz23_PkM : (Try.prog.info? 23).map (·.size) = some 1 := by kernel_rfl
theorem fb23_PkM : flatB Try.prog 23 = true := by kernel_rfl
theorem known97_PkM : Known Try.prog 97 := Known.mk' Try.func97 (by kernel_rfl)
theorem known98_PkM : Known Try.prog 98 := Known.mk' Try.func98 (by kernel_rfl)
theorem elt5_PkM : Elt Try.prog 5 [Value.int .u8 0] 1 := Elt.mk' (by kernel_rfl) (by decide)
theorem sz2_PkM : (Try.prog.info? 2).map (·.size) = some 1 := by kernel_rfl
theorem fb2_PkM : flatB Try.prog 2 = true := by kernel_rfl
theorem mixed_PkM : Try.prog.follows .mixedOrders = true := by kernel_rfl
theorem elt23_PkM : Elt Try.prog 23 [Value.float .f32 0] 4 := Elt.mk' (by kernel_rfl) (by decide)
theorem known99_PkM : Known Try.prog 99 := Known.mk' Try.func99 (by kernel_rfl)
theorem ext100_PkM : ExtF Try.prog 100 (Extern.MathFloor.toIntegral "math.RoundToEven" .even) := ⟨_, Try.func100, by kernel_rfl, by kernel_rfl, by kernel_rfl, by kernel_rfl⟩
attribute [local irreducible] fop fcmp fconv fneg fabs List.getD scN num part3 fround qI qz scU allF topK hdr

theorem c_implPack {w : World} {f1 f2 f3 st : Nat} {wi hi de : Int} {a : Option Addr} {c : Nat} {vs : List V3} (hA : Cl w a (vl vs)) (hX : Cans3 vs) (hf : Can3 (f1, f2, f3)) (hst : Can .f32 st) (hn : vs.length ≤ 1000) : Pure Try.prog 58 [.agg #[.float .f32 f1, .float .f32 f2, .float .f32 f3, .float .f32 st, .int .i64 wi, .int .i64 hi, .int .i64 de, .slice a vs.length c]] w (.tuple #[.string (if allF vs (vs.length * 3) then stb (pkL (f1, f2, f3) st wi hi de vs) else ⟨#[]⟩), .bool (allF vs (vs.length * 3))]) := by
  refine Pure.enter Try.func58 rfl Try.ntmps58 (Nat.le_of_ble_eq_true rfl) ?_
  refine V.seq ?_
  refine V.region ?_
  refine VL.new1 (.inl rfl) rfl (by decide) (yn_box rfl rfl (.inr ⟨rfl, rfl⟩)) ?_
  intro b1
  refine VL.r (.inl rfl) rfl (by decide) (yr_assign rfl rfl) ?_
  refine VL.r (.inl rfl) rfl (by decide) (yr_assign (u := .bool false) rfl rfl) ?_
  refine VL.nil ?_
  refine VE.then_wp ?_
  refine V.seq ?_
  refine V.region ?_
  refine VL.r (.inl rfl) rfl (by decide) (yr_assign (u := .float .f32 0) rfl rfl) ?_
  refine VL.nil ?_
  refine VE.then_wp ?_
  refine V.seq ?_
  refine V.seq ?_
  refine V.region ?_
  refine VL.r (.inl rfl) rfl (by decide) (yr_fieldAddr rfl Try.underlying30 rfl rfl sz28_PkM (by decide) rfl) ?_
  refine VL.q (.inl rfl) rfl (by decide) (yq_load rfl fb28_PkM rfl (by first | exact Sees.root (by assumption) | exact Sees.own (by repeat (first | exact List.mem_cons_self | exact List.mem_append_left _ (by assumption) | apply List.mem_cons_of_mem | apply List.mem_append_right)) | exact Sees.root (hR _ (by omega)) | exact Sees.own (RowsIn.mem (by repeat (first | exact RowsIn.here | exact RowsIn.last | apply RowsIn.there | apply RowsIn.thereS)) _ (by omega)) | exact Sees.own (WRowsIn.mem (by repeat (first | exact WRowsIn.here | exact WRowsIn.last | apply WRowsIn.there | apply WRowsIn.thereS)) _ (by omega))) rfl) ?_
  refine VL.r (.inl rfl) rfl (by decide) (yr_len rfl Try.underlying28 rfl) ?_
  refine VL.r (.inl rfl) rfl (by decide) (yr_move (u := .int .i64 0) rfl rfl) ?_
  refine VL.nil ?_
  refine VE.then_wp ?_
  refine V.block ?_
  refine V.loopc (G := Nat) [(1, _), (18, _), (19, _)] (fun (i : Nat) => i ≤ vs.length ∧ allF vs (i * 3) = true) (fun (i : Nat) => [⟨some ⟨b1, 0, none⟩, [.float .f32 f1, .float .f32 f2, .float .f32 f3, .float .f32 st, .int .i64 wi, .int .i64 hi, .int .i64 de, .slice a vs.length c], 8, 30⟩]) (fun (i : Nat) => [(4, .float .f32 (scU vs (i * 3))), (20, .int .i64 (i : Int))]) (fun (i : Nat) => vs.length - i) 0 (.cons rfl (.cons rfl (.cons rfl .nil))) (.cons (congrArg (fun n => some (Value.float .f32 n)) (by rw [Nat.zero_mul]; exact (scU_0 (vs := vs)).symm)) (.cons rfl .nil)) ?_ ?_ ?_
  · exact (fun w hw => hw)
  · exact (by exact ⟨Nat.zero_le _, by rw [Nat.zero_mul]; exact allF_0⟩)
  rintro i ⟨hi9, hia⟩
  show V _ _ _ [⟨some ⟨b1, 0, none⟩, [.float .f32 f1, .float .f32 f2, .float .f32 f3, .float .f32 st, .int .i64 wi, .int .i64 hi, .int .i64 de, .slice a vs.length c], 8, 30⟩] ([(4, .float .f32 (scU vs (i * 3))), (20, .int .i64 (i : Int))] ++ [(1, _), (18, _), (19, _)]) _ _
  refine V.seq ?_
  refine V.region ?_
  refine VL.r (.inl rfl) rfl (by decide) (yr_icmp rfl (.inr (.inr (.inl rfl))) rfl rfl) ?_
  refine VL.nil ?_
  refine VE.then_wp ?_
  refine V.seq ?_
  refine V.cond rfl (fun h1 => ?_) (fun h1 => ?_)
  · skip
    replace h1 := ic_lss h1
    refine V.skip ?_
    refine VE.then_wp ?_
    refine V.seq ?_
    refine V.block ?_
    refine V.seq ?_
    refine V.region ?_
    refine VL.q (.inl rfl) rfl (by decide) (yq_idxN (k := i) rfl Try.underlying28 sz27_PkM rfl rfl (by first | exact Sees.root (by assumption) | exact Sees.own (by repeat (first | exact List.mem_cons_self | exact List.mem_append_left _ (by assumption) | apply List.mem_cons_of_mem | apply List.mem_append_right)) | exact Sees.root (hR _ (by omega)) | exact Sees.own (RowsIn.mem (by repeat (first | exact RowsIn.here | exact RowsIn.last | apply RowsIn.there | apply RowsIn.thereS)) _ (by omega)) | exact Sees.own (WRowsIn.mem (by repeat (first | exact WRowsIn.here | exact WRowsIn.last | apply WRowsIn.there | apply WRowsIn.thereS)) _ (by omega))) (by first | rfl | omega | (push_cast; rfl) | (push_cast; omega) | exact tmod_nat _ _) (by exact vl_length _) (by decide) (by first | omega | (simp only [List.length_cons, List.length_nil]; omega))) ?_
    refine VL.q (.inl rfl) rfl (by decide) (yq_loadV rfl Try.underlying27 sz27_PkM rfl (by first | exact Sees.root (by assumption) | exact Sees.own (by repeat (first | exact List.mem_cons_self | exact List.mem_append_left _ (by assumption) | apply List.mem_cons_of_mem | apply List.mem_append_right)) | exact Sees.root (hR _ (by omega)) | exact Sees.own (RowsIn.mem (by repeat (first | exact RowsIn.here | exact RowsIn.last | apply RowsIn.there | apply RowsIn.thereS)) _ (by omega)) | exact Sees.own (WRowsIn.mem (by repeat (first | exact WRowsIn.here | exact WRowsIn.last | apply WRowsIn.there | apply WRowsIn.thereS)) _ (by omega))) (by first | omega | (simp only [List.length_cons, List.length_nil]; omega))) ?_
    refine VL.new1 (.inl rfl) rfl (by decide) (yn_alloc rfl zero27_PkM rfl) ?_
    intro b6
    refine VL.s (.inl rfl) rfl (yc_store rfl sz27_PkM rfl rfl (by repeat (first | exact UpdF.here | apply UpdF.there | apply UpdF.thereS)) (.inr ⟨rfl, rfl⟩) rfl (by first | exact Nat.le_of_ble_eq_true rfl | simp) (by decide) rfl) ?_
    rintro ⟨⟩
    refine VL.nil ?_
    refine VE.then_wp ?_
    refine V.seq ?_
    refine V.region ?_
    refine VL.q (.inl rfl) rfl (by decide) (yq_loadS rfl Try.underlying27 sz27_PkM rfl (by first | exact Sees.root (by assumption) | exact Sees.own (by repeat (first | exact List.mem_cons_self | exact List.mem_append_left _ (by assumption) | apply List.mem_cons_of_mem | apply List.mem_append_right)) | exact Sees.root (hR _ (by omega)) | exact Sees.own (RowsIn.mem (by repeat (first | exact RowsIn.here | exact RowsIn.last | apply RowsIn.there | apply RowsIn.thereS)) _ (by omega)) | exact Sees.own (WRowsIn.mem (by repeat (first | exact WRowsIn.here | exact WRowsIn.last | apply WRowsIn.there | apply WRowsIn.thereS)) _ (by omega))) rfl rfl rfl) ?_
    refine VL.new1 (.inl rfl) rfl (by decide) (yn_callf rfl known96_PkM (.cons rfl .nil) (fun w hw => c_nums)) ?_
    intro b25
    refine VL.r (.inl rfl) rfl (by decide) (yr_len rfl Try.underlying86 rfl) ?_
    refine VL.r (.inl rfl) rfl (by decide) (yr_move (u := .int .i64 0) rfl rfl) ?_
    refine VL.nil ?_
    refine VE.then_wp ?_
    refine V.block ?_
    refine V.loopc (G := Nat) [(1, _), (18, _), (19, _), (20, _), (25, _), (26, _)] (fun (j : Nat) => j ≤ 3 ∧ allF vs (i * 3 + j) = true) (fun (j : Nat) => [⟨some ⟨b25, 0, none⟩, fl [(vs.getD i z3).1, (vs.getD i z3).2.1, (vs.getD i z3).2.2], 3 * 1, 23⟩, ⟨some ⟨b6, 0, none⟩, [.float .f32 (vs.getD i z3).1, .float .f32 (vs.getD i z3).2.1, .float .f32 (vs.getD i z3).2.2], 3, 27⟩, ⟨some ⟨b1, 0, none⟩, [.float .f32 f1, .float .f32 f2, .float .f32 f3, .float .f32 st, .int .i64 wi, .int .i64 hi, .int .i64 de, .slice a vs.length c], 8, 30⟩]) (fun (j : Nat) => [(4, .float .f32 (scU vs (i * 3 + j))), (27, .int .i64 (j : Int))]) (fun (j : Nat) => 3 - j) 0 (.cons rfl (.cons rfl (.cons rfl (.cons rfl (.cons rfl (.cons rfl .nil)))))) (.cons rfl (.cons rfl .nil)) ?_ ?_ ?_
    · exact (fun w hw => hw)
    · exact (by exact ⟨Nat.zero_le _, hia⟩)
    rintro j ⟨hj, hja⟩
    show V _ _ _ [⟨some ⟨b25, 0, none⟩, fl [(vs.getD i z3).1, (vs.getD i z3).2.1, (vs.getD i z3).2.2], 3 * 1, 23⟩, ⟨some ⟨b6, 0, none⟩, [.float .f32 (vs.getD i z3).1, .float .f32 (vs.getD i z3).2.1, .float .f32 (vs.getD i z3).2.2], 3, 27⟩, ⟨some ⟨b1, 0, none⟩, [.float .f32 f1, .float .f32 f2, .float .f32 f3, .float .f32 st, .int .i64 wi, .int .i64 hi, .int .i64 de, .slice a vs.length c], 8, 30⟩] ([(4, .float .f32 (scU vs (i * 3 + j))), (27, .int .i64 (j : Int))] ++ [(1, _), (18, _), (19, _), (20, _), (25, _), (26, _)]) _ _
    refine V.seq ?_
    refine V.region ?_
    refine VL.r (.inl rfl) rfl (by decide) (yr_icmp rfl (.inr (.inr (.inl rfl))) rfl rfl) ?_
    refine VL.nil ?_
    refine VE.then_wp ?_
    refine V.seq ?_
    refine V.cond rfl (fun h2 => ?_) (fun h2 => ?_)
    · skip
      replace h2 := ic_lss h2
      refine V.skip ?_
      refine VE.then_wp ?_
      refine V.seq ?_
      refine V.block ?_
      refine V.seq ?_
      refine V.region ?_
      refine VL.q (.inl rfl) rfl (by decide) (yq_idx (k := j) rfl Try.underlying86 sz23_PkM rfl rfl (by first | exact Sees.root (by assumption) | exact Sees.own (by repeat (first | exact List.mem_cons_self | exact List.mem_append_left _ (by assumption) | apply List.mem_cons_of_mem | apply List.mem_append_right)) | exact Sees.root (hR _ (by omega)) | exact Sees.own (RowsIn.mem (by repeat (first | exact RowsIn.here | exact RowsIn.last | apply RowsIn.there | apply RowsIn.thereS)) _ (by omega)) | exact Sees.own (WRowsIn.mem (by repeat (first | exact WRowsIn.here | exact WRowsIn.last | apply WRowsIn.there | apply WRowsIn.thereS)) _ (by omega))) (by first | rfl | omega | (push_cast; rfl) | (push_cast; omega) | exact tmod_nat _ _) (by rfl) (by first | omega | (simp only [List.length_cons, List.length_nil]; omega))) ?_
      refine VL.q (.inl rfl) rfl (by decide) (yq_loadF rfl fb23_PkM rfl (by first | exact Sees.root (by assumption) | exact Sees.own (by repeat (first | exact List.mem_cons_self | exact List.mem_append_left _ (by assumption) | apply List.mem_cons_of_mem | apply List.mem_append_right)) | exact Sees.root (hR _ (by omega)) | exact Sees.own (RowsIn.mem (by repeat (first | exact RowsIn.here | exact RowsIn.last | apply RowsIn.there | apply RowsIn.thereS)) _ (by omega)) | exact Sees.own (WRowsIn.mem (by repeat (first | exact WRowsIn.here | exact WRowsIn.last | apply WRowsIn.there | apply WRowsIn.thereS)) _ (by omega))) (by first | omega | (simp only [List.length_cons, List.length_nil]; omega))) ?_
      refine VL.r (.inl rfl) rfl (by decide) (yr_assign rfl rfl) ?_
      refine VL.nil ?_
      refine VE.then_wp ?_
      refine V.seq ?_
      refine V.seq ?_
      refine V.region ?_
      refine VL.r (.inl rfl) rfl (by decide) (yr_move rfl rfl) ?_
      refine VL.q (.inl rfl) rfl (by decide) (yq_callf rfl known97_PkM (.cons rfl .nil) (fun w hw => c_IsFinite _)) ?_
      refine VL.r (.inl rfl) rfl (by decide) (yr_not rfl rfl) ?_
      refine VL.nil ?_
      refine VE.then_wp ?_
      refine V.cond rfl (fun h3 => ?_) (fun h3 => ?_)
      · skip
        replace h3 := bnot_t h3
        refine V.seq ?_
        refine V.region ?_
        refine VL.r (.inl rfl) rfl (by decide) (yr_assign rfl rfl) ?_
        refine VL.r (.inl rfl) rfl (by decide) (yr_assign (u := .bool false) rfl rfl) ?_
        refine VL.nil ?_
        refine VE.then_wp ?_
        refine V.ret ?_
        refine VE.then_ret ?_
        refine VE.block_ret ?_
        refine VE.then_ret ?_
        refine VE.then_ret ?_
        refine VE.block_ret ?_
        refine VE.block_ret ?_
        refine VE.then_ret ?_
        refine VE.then_ret ?_
        refine VE.block_ret ?_
        refine VE.then_ret ?_
        refine ret2 rfl rfl rfl (by nofun) (by nofun) (fun w1 hw => ?_)
        first
          | (have h8 : allF vs (vs.length * 3) = false := allF_no hja (by rw [(num_get (vs := vs) (i := i) (j := j) (by omega))]; assumption) (by omega)
             exact ⟨by rw [h8]; rfl, hw.below⟩)
          | (obtain rfl : i = vs.length := by omega
             exact ⟨by rw [hall]; rfl, hw.below⟩)
      · skip
        replace h3 := bnot_f h3
        refine V.skip ?_
        refine VE.then_wp ?_
        refine V.region ?_
        refine VL.r (.inl rfl) rfl (by decide) (yr_move rfl rfl) ?_
        refine VL.r (.inl rfl) rfl (by decide) (yr_move rfl rfl) ?_
        refine VL.r (.inl rfl) rfl (by decide) (yr_fconv rfl Try.underlying23 Try.underlying56 (by decide) rfl (fover_up _)) ?_
        refine VL.q (.inl rfl) rfl (by decide) (yq_callf rfl known98_PkM (.cons rfl .nil) (fun w hw => c_absP _)) ?_
        refine VL.r (.inl rfl) rfl (by decide) (yr_absdn rfl Try.underlying56 Try.underlying23 rfl) ?_
        refine VL.r (.inl rfl) rfl (by decide) (yr_maxS rfl rfl rfl (allF_pos hja) (by assumption)) ?_
        refine VL.r (.inl rfl) rfl (by decide) (yr_assign rfl rfl) ?_
        refine VL.nil ?_
        refine VE.block_normal ?_
        refine VE.then_wp ?_
        refine V.region ?_
        refine VL.r (.inl rfl) rfl (by decide) (yr_int rfl rfl rfl (.inl ⟨rfl, wrap_in (by omega)⟩)) ?_
        refine VL.r (.inl rfl) rfl (by decide) (yr_move rfl rfl) ?_
        refine VL.nil ?_
        refine VE.round (j + 1) ?_ ?_ ?_ ?_ ?_
        · exact (.cons (congrArg (fun n => some (Value.float .f32 n)) (by exact scU_m (num_get (vs := vs) (i := i) (j := j) (by omega)))) (.cons rfl .nil))
        · exact (.cons rfl (.cons rfl (.cons rfl (.cons rfl (.cons rfl (.cons rfl .nil))))))
        · exact (fun w hw => hw)
        · exact ⟨by omega, allF_s hja (num_get (vs := vs) (i := i) (j := j) (by omega)) (by assumption)⟩
        · (try dsimp only); omega
    · skip
      replace h2 := ic_lss' h2
      refine V.exit ?_
      refine VE.then_exit ?_
      refine VE.then_exit ?_
      refine VE.block_here ?_
      refine VE.block_normal ?_
      refine VE.then_wp ?_
      refine V.region ?_
      refine VL.r (.inl rfl) rfl (by decide) (yr_int rfl rfl rfl (.inl ⟨rfl, wrap_in (by omega)⟩)) ?_
      refine VL.r (.inl rfl) rfl (by decide) (yr_move rfl rfl) ?_
      refine VL.nil ?_
      refine VE.round (i + 1) ?_ ?_ ?_ ?_ ?_
      · exact (.cons (congrArg (fun n => some (Value.float .f32 n)) (by rw [show (i + 1) * 3 = i * 3 + j by omega])) (.cons rfl .nil))
      · exact (.cons rfl (.cons rfl (.cons rfl .nil)))
      · exact (fun w hw => hw.sub ((List.sublist_cons_self _ _).trans (List.sublist_cons_self _ _)))
      · exact ⟨by omega, by rw [show (i + 1) * 3 = i * 3 + j by omega]; exact hja⟩
      · (try dsimp only); omega
  · skip
    replace h1 := ic_lss' h1
    obtain rfl : i = vs.length := by omega
    refine V.exit ?_
    refine VE.then_exit ?_
    refine VE.then_exit ?_
    refine VE.block_here ?_
    refine VE.then_wp ?_
    refine V.seq ?_
    refine V.region ?_
    refine VL.new1 (.inl rfl) rfl (by decide) (yn_lit rfl Try.underlying50 elt5_PkM rfl (by decide) (.cons rfl (.cons rfl (.cons rfl (.cons rfl .nil)))) (by first | (simp; done) | (simp [cn, cn1, cn0]; done)) rfl rfl rfl) ?_
    intro b42
    refine VL.c (.inl rfl) rfl (by decide) (yc_own8 rfl Try.underlying50 Try.underlying5 rfl (by repeat (first | exact List.mem_cons_self | apply List.mem_cons_of_mem)) (by decide)) ?_
    rintro ⟨⟩
    refine VL.r (.inl rfl) rfl (by decide) (yr_fieldAddr rfl Try.underlying30 rfl rfl sz2_PkM (by decide) rfl) ?_
    refine VL.q (.inl rfl) rfl (by decide) (yq_load rfl fb2_PkM rfl (by first | exact Sees.root (by assumption) | exact Sees.own (by repeat (first | exact List.mem_cons_self | exact List.mem_append_left _ (by assumption) | apply List.mem_cons_of_mem | apply List.mem_append_right)) | exact Sees.root (hR _ (by omega)) | exact Sees.own (RowsIn.mem (by repeat (first | exact RowsIn.here | exact RowsIn.last | apply RowsIn.there | apply RowsIn.thereS)) _ (by omega)) | exact Sees.own (WRowsIn.mem (by repeat (first | exact WRowsIn.here | exact WRowsIn.last | apply WRowsIn.there | apply WRowsIn.thereS)) _ (by omega))) rfl) ?_
    refine VL.r (.inl rfl) rfl (by decide) (yr_intConv (r := w8 _) rfl Try.underlying2 Try.underlying5 rfl rfl) ?_
    refine VL.r (.inl rfl) rfl (by decide) (yr_fieldAddr rfl Try.underlying30 rfl rfl sz2_PkM (by decide) rfl) ?_
    refine VL.q (.inl rfl) rfl (by decide) (yq_load rfl fb2_PkM rfl (by first | exact Sees.root (by assumption) | exact Sees.own (by repeat (first | exact List.mem_cons_self | exact List.mem_append_left _ (by assumption) | apply List.mem_cons_of_mem | apply List.mem_append_right)) | exact Sees.root (hR _ (by omega)) | exact Sees.own (RowsIn.mem (by repeat (first | exact RowsIn.here | exact RowsIn.last | apply RowsIn.there | apply RowsIn.thereS)) _ (by omega)) | exact Sees.own (WRowsIn.mem (by repeat (first | exact WRowsIn.here | exact WRowsIn.last | apply WRowsIn.there | apply WRowsIn.thereS)) _ (by omega))) rfl) ?_
    refine VL.r (.inl rfl) rfl (by decide) (yr_intConv (r := w8 _) rfl Try.underlying2 Try.underlying5 rfl rfl) ?_
    refine VL.r (.inl rfl) rfl (by decide) (yr_fieldAddr rfl Try.underlying30 rfl rfl sz2_PkM (by decide) rfl) ?_
    refine VL.q (.inl rfl) rfl (by decide) (yq_load rfl fb2_PkM rfl (by first | exact Sees.root (by assumption) | exact Sees.own (by repeat (first | exact List.mem_cons_self | exact List.mem_append_left _ (by assumption) | apply List.mem_cons_of_mem | apply List.mem_append_right)) | exact Sees.root (hR _ (by omega)) | exact Sees.own (RowsIn.mem (by repeat (first | exact RowsIn.here | exact RowsIn.last | apply RowsIn.there | apply RowsIn.thereS)) _ (by omega)) | exact Sees.own (WRowsIn.mem (by repeat (first | exact WRowsIn.here | exact WRowsIn.last | apply WRowsIn.there | apply WRowsIn.thereS)) _ (by omega))) rfl) ?_
    refine VL.r (.inl rfl) rfl (by decide) (yr_intConv (r := w8 _) rfl Try.underlying2 Try.underlying5 rfl rfl) ?_
    refine VL.new1 (.inl rfl) rfl (by decide) (yn_lit rfl Try.underlying50 elt5_PkM rfl (by decide) (.cons rfl (.cons rfl (.cons rfl .nil))) (by first | (simp; done) | (simp [cn, cn1, cn0]; done)) rfl rfl rfl) ?_
    intro b53
    refine VL.c (.inl rfl) rfl (by decide) (yc_appendz 1 rfl rfl Try.underlying50 elt5_PkM rfl rfl (by repeat (first | exact UpdF.here | apply UpdF.there | apply UpdF.thereS)) (by first | exact Sees.root (by assumption) | exact Sees.own (by repeat (first | exact List.mem_cons_self | exact List.mem_append_left _ (by assumption) | apply List.mem_cons_of_mem | apply List.mem_append_right)) | exact Sees.root (hR _ (by omega)) | exact Sees.own (RowsIn.mem (by repeat (first | exact RowsIn.here | exact RowsIn.last | apply RowsIn.there | apply RowsIn.thereS)) _ (by omega)) | exact Sees.own (WRowsIn.mem (by repeat (first | exact WRowsIn.here | exact WRowsIn.last | apply WRowsIn.there | apply WRowsIn.thereS)) _ (by omega))) rfl (by first | rfl | (rw [bl_length, Nat.mul_one])) rfl (by first | rfl | exact bl_scal _) rfl (by first | omega | (rw [bd_len]; omega)) (by first | omega | (rw [bd_len]; omega))) ?_
    rintro ⟨a54, c54⟩
    refine VL.r (.inl rfl) rfl (by decide) (yr_assign rfl rfl) ?_
    refine VL.nil ?_
    refine VE.then_wp ?_
    refine V.seq ?_
    refine V.seq ?_
    refine Dr.V.drawR [(0, 5), (1, 5), (3, 5), (4, 5), (5, 5), (9, 5), (2, 1), (6, 2), (7, 3), (8, 5)] [(6, ((fun b => .slice (some ⟨b, 0, none⟩) 2 2), (fun b => ⟨some ⟨b, 0, none⟩, [.float .f32 st, .float .f32 (scU vs (vs.length * 3))], 2 * 1, 23⟩)))] [] _ mixed_PkM (by kernel_rfl) (fun w hw => hw) ?_
    refine Dr.SW.r rfl (.inl rfl) rfl (by decide) (yr_fieldAddr rfl Try.underlying30 rfl rfl sz27_PkM (by decide) rfl) ?_
    refine Dr.SW.p rfl (.inl rfl) rfl (by decide) (yq_loadS rfl Try.underlying27 sz27_PkM rfl (by first | exact Sees.root (by assumption) | exact Sees.own (by (try simp only [List.append_assoc, List.cons_append, List.nil_append]); repeat (first | exact List.mem_cons_self | exact List.mem_append_left _ (by assumption) | apply List.mem_cons_of_mem | apply List.mem_append_right)) | exact Sees.root (hR _ (by omega)) | exact Sees.own (RowsIn.mem (by (try simp only [List.append_assoc, List.cons_append, List.nil_append]); repeat (first | exact RowsIn.here | exact RowsIn.last | apply RowsIn.there | apply RowsIn.thereS)) _ (by omega)) | exact Sees.own (WRowsIn.mem (by (try simp only [List.append_assoc, List.cons_append, List.nil_append]); repeat (first | exact WRowsIn.here | exact WRowsIn.last | apply WRowsIn.there | apply WRowsIn.thereS)) _ (by omega))) rfl rfl rfl) ?_
    refine Dr.SW.r rfl (.inl rfl) rfl (by decide) (yr_fieldAddr rfl Try.underlying30 rfl rfl sz23_PkM (by decide) rfl) ?_
    refine Dr.SW.p rfl (.inl rfl) rfl (by decide) (yq_load rfl fb23_PkM rfl (by first | exact Sees.root (by assumption) | exact Sees.own (by (try simp only [List.append_assoc, List.cons_append, List.nil_append]); repeat (first | exact List.mem_cons_self | exact List.mem_append_left _ (by assumption) | apply List.mem_cons_of_mem | apply List.mem_append_right)) | exact Sees.root (hR _ (by omega)) | exact Sees.own (RowsIn.mem (by (try simp only [List.append_assoc, List.cons_append, List.nil_append]); repeat (first | exact RowsIn.here | exact RowsIn.last | apply RowsIn.there | apply RowsIn.thereS)) _ (by omega)) | exact Sees.own (WRowsIn.mem (by (try simp only [List.append_assoc, List.cons_append, List.nil_append]); repeat (first | exact WRowsIn.here | exact WRowsIn.last | apply WRowsIn.there | apply WRowsIn.thereS)) _ (by omega))) rfl) ?_
    refine Dr.SW.r rfl (.inl rfl) rfl (by decide) (yr_move rfl rfl) ?_
    refine Dr.SW.r rfl (.inl rfl) rfl (by decide) (yr_move (u := .int .i64 0) rfl rfl) ?_
    refine Dr.SW.new1 rfl (.inl rfl) rfl (by decide) (yn_callf rfl known96_PkM (.cons rfl .nil) (fun w hw => c_nums)) ?_
    intro b57
    refine Dr.SW.a rfl rfl rfl (by decide) rfl (fun w0 => (yn_lit rfl Try.underlying86 elt23_PkM rfl (by decide) (.cons rfl (.cons rfl .nil)) (by first | (simp; done) | (simp [cn, cn1, cn0]; done)) rfl rfl rfl)) ?_
    intro b61
    refine Dr.SW.c rfl (.inl rfl) rfl (by decide) (yc_appendz 1 rfl rfl Try.underlying86 elt23_PkM rfl rfl (Dr.UpdF.app (by repeat (first | exact UpdF.here | apply UpdF.there | apply UpdF.thereS))) (by first | exact Sees.root (by assumption) | exact Sees.own (by (try simp only [List.append_assoc, List.cons_append, List.nil_append]); repeat (first | exact List.mem_cons_self | exact List.mem_append_left _ (by assumption) | apply List.mem_cons_of_mem | apply List.mem_append_right)) | exact Sees.root (hR _ (by omega)) | exact Sees.own (RowsIn.mem (by (try simp only [List.append_assoc, List.cons_append, List.nil_append]); repeat (first | exact RowsIn.here | exact RowsIn.last | apply RowsIn.there | apply RowsIn.thereS)) _ (by omega)) | exact Sees.own (WRowsIn.mem (by (try simp only [List.append_assoc, List.cons_append, List.nil_append]); repeat (first | exact WRowsIn.here | exact WRowsIn.last | apply WRowsIn.there | apply WRowsIn.thereS)) _ (by omega))) rfl (by first | rfl | (rw [bl_length, Nat.mul_one])) rfl (by first | rfl | exact bl_scal _) rfl (by first | omega | (rw [bd_len]; omega)) (by first | omega | (rw [bd_len]; omega))) ?_
    rintro ⟨a62, c62⟩
    refine Dr.SW.r rfl (.inl rfl) rfl (by decide) (yr_len rfl Try.underlying86 rfl) ?_
    refine Dr.SW.done ?_
    refine Dr.eqO (by simp only [List.append_nil, List.append_assoc, List.cons_append, List.nil_append] <;> rfl) ?_
    refine VE.then_wp ?_
    refine V.block ?_
    refine V.loopc (G := Nat × (Option Addr) × Nat) [(1, _), (4, _), (62, _), (63, _)] (fun ⟨k, ar, cr⟩ => k ≤ 5 ∧ allF vs (vs.length * 3) = true) (fun ⟨k, ar, cr⟩ => [⟨ar, bl (hdr wi hi de ++ topK (f1, f2, f3) st (scU vs (vs.length * 3)) (k)), cr * 1, 5⟩, ⟨a62, fl [f1, f2, f3, st, (scU vs (vs.length * 3))], c62 * 1, 23⟩, ⟨some ⟨b1, 0, none⟩, [.float .f32 f1, .float .f32 f2, .float .f32 f3, .float .f32 st, .int .i64 wi, .int .i64 hi, .int .i64 de, .slice a vs.length c], 8, 30⟩]) (fun ⟨k, ar, cr⟩ => [(9, .slice ar (hdr wi hi de ++ topK (f1, f2, f3) st (scU vs (vs.length * 3)) (k)).length cr), (64, .int .i64 (k : Int))]) (fun ⟨k, ar, cr⟩ => 5 - k) (0, a54, c54) (.cons rfl (.cons rfl (.cons rfl (.cons rfl .nil)))) (.cons (congrArg (fun n => some (Value.slice _ n _)) (by rw [topK_0]; rfl)) (.cons rfl .nil)) ?_ ?_ ?_
    · exact (fun w hw => by dsimp only; rw [topK_0]; exact hw.pick (by apply Pick.p3; all_goals (repeat (first | exact Rem.here | apply Rem.there))))
    · exact (by exact ⟨Nat.zero_le _, hia⟩)
    rintro ⟨k, ar, cr⟩ ⟨hk, hall⟩
    show V _ _ _ [⟨ar, bl (hdr wi hi de ++ topK (f1, f2, f3) st (scU vs (vs.length * 3)) (k)), cr * 1, 5⟩, ⟨a62, fl [f1, f2, f3, st, (scU vs (vs.length * 3))], c62 * 1, 23⟩, ⟨some ⟨b1, 0, none⟩, [.float .f32 f1, .float .f32 f2, .float .f32 f3, .float .f32 st, .int .i64 wi, .int .i64 hi, .int .i64 de, .slice a vs.length c], 8, 30⟩] ([(9, .slice ar (hdr wi hi de ++ topK (f1, f2, f3) st (scU vs (vs.length * 3)) (k)).length cr), (64, .int .i64 (k : Int))] ++ [(1, _), (4, _), (62, _), (63, _)]) _ _
    refine V.seq ?_
    refine V.region ?_
    refine VL.r (.inl rfl) rfl (by decide) (yr_icmp rfl (.inr (.inr (.inl rfl))) rfl rfl) ?_
    refine VL.nil ?_
    refine VE.then_wp ?_
    refine V.seq ?_
    refine V.cond rfl (fun h4 => ?_) (fun h4 => ?_)
    · skip
      replace h4 := ic_lss h4
      refine V.skip ?_
      refine VE.then_wp ?_
      refine V.seq ?_
      refine V.block ?_
      refine V.seq ?_
      refine V.region ?_
      refine VL.q (.inl rfl) rfl (by decide) (yq_idx (k := k) rfl Try.underlying86 sz23_PkM rfl rfl (by first | exact Sees.root (by assumption) | exact Sees.own (by repeat (first | exact List.mem_cons_self | exact List.mem_append_left _ (by assumption) | apply List.mem_cons_of_mem | apply List.mem_append_right)) | exact Sees.root (hR _ (by omega)) | exact Sees.own (RowsIn.mem (by repeat (first | exact RowsIn.here | exact RowsIn.last | apply RowsIn.there | apply RowsIn.thereS)) _ (by omega)) | exact Sees.own (WRowsIn.mem (by repeat (first | exact WRowsIn.here | exact WRowsIn.last | apply WRowsIn.there | apply WRowsIn.thereS)) _ (by omega))) (by first | rfl | omega | (push_cast; rfl) | (push_cast; omega) | exact tmod_nat _ _) (by rfl) (by first | omega | (simp only [List.length_cons, List.length_nil]; omega))) ?_
      refine VL.q (.inl rfl) rfl (by decide) (yq_loadF rfl fb23_PkM rfl (by first | exact Sees.root (by assumption) | exact Sees.own (by repeat (first | exact List.mem_cons_self | exact List.mem_append_left _ (by assumption) | apply List.mem_cons_of_mem | apply List.mem_append_right)) | exact Sees.root (hR _ (by omega)) | exact Sees.own (RowsIn.mem (by repeat (first | exact RowsIn.here | exact RowsIn.last | apply RowsIn.there | apply RowsIn.thereS)) _ (by omega)) | exact Sees.own (WRowsIn.mem (by repeat (first | exact WRowsIn.here | exact WRowsIn.last | apply WRowsIn.there | apply WRowsIn.thereS)) _ (by omega))) (by first | omega | (simp only [List.length_cons, List.length_nil]; omega))) ?_
      refine VL.r (.inl rfl) rfl (by decide) (yr_assign rfl rfl) ?_
      refine VL.nil ?_
      refine VE.then_wp ?_
      refine V.region ?_
      refine VL.r (.inl rfl) rfl (by decide) (yr_move rfl rfl) ?_
      refine VL.r (.inl rfl) rfl (by decide) (yr_move rfl rfl) ?_
      refine VL.c (.inl rfl) rfl (by decide) (yc_callf rfl known99_PkM (.cons rfl (.cons rfl .nil)) (by apply Pick.one; repeat (first | exact Rem.here | apply Rem.there)) (c_fourB (bs := hdr wi hi de ++ topK (f1, f2, f3) st (scU vs (vs.length * 3)) (k)) (can_top hf hst (by omega)) (topK_le (by omega)))) ?_
      rintro ⟨a70, c70⟩
      refine VL.r (.inl rfl) rfl (by decide) (yr_assign rfl rfl) ?_
      refine VL.nil ?_
      refine VE.block_normal ?_
      refine VE.then_wp ?_
      refine V.region ?_
      refine VL.r (.inl rfl) rfl (by decide) (yr_int rfl rfl rfl (.inl ⟨rfl, wrap_in (by omega)⟩)) ?_
      refine VL.r (.inl rfl) rfl (by decide) (yr_move rfl rfl) ?_
      refine VL.nil ?_
      refine VE.round (k + 1, a70, c70) ?_ ?_ ?_ ?_ ?_
      · exact (.cons (congrArg (fun n => some (Value.slice _ n _)) (by rw [topK_succ (by omega), ← List.append_assoc])) (.cons rfl .nil))
      · exact (.cons rfl (.cons rfl (.cons rfl (.cons rfl .nil))))
      · exact (fun w hw => by dsimp only; rw [topK_succ (by omega), ← List.append_assoc]; exact hw)
      · exact ⟨by omega, hall⟩
      · (try dsimp only); omega
    · skip
      replace h4 := ic_lss' h4
      refine V.exit ?_
      refine VE.then_exit ?_
      refine VE.then_exit ?_
      refine VE.block_here ?_
      refine VE.then_wp ?_
      refine V.seq ?_
      refine V.seq ?_
      refine V.region ?_
      refine VL.r (.inl rfl) rfl (by decide) (yr_fieldAddr rfl Try.underlying30 rfl rfl sz28_PkM (by decide) rfl) ?_
      refine VL.q (.inl rfl) rfl (by decide) (yq_load rfl fb28_PkM rfl (by first | exact Sees.root (by assumption) | exact Sees.own (by repeat (first | exact List.mem_cons_self | exact List.mem_append_left _ (by assumption) | apply List.mem_cons_of_mem | apply List.mem_append_right)) | exact Sees.root (hR _ (by omega)) | exact Sees.own (RowsIn.mem (by repeat (first | exact RowsIn.here | exact RowsIn.last | apply RowsIn.there | apply RowsIn.thereS)) _ (by omega)) | exact Sees.own (WRowsIn.mem (by repeat (first | exact WRowsIn.here | exact WRowsIn.last | apply WRowsIn.there | apply WRowsIn.thereS)) _ (by omega))) rfl) ?_
      refine VL.r (.inl rfl) rfl (by decide) (yr_len rfl Try.underlying28 rfl) ?_
      refine VL.r (.inl rfl) rfl (by decide) (yr_move (u := .int .i64 0) rfl rfl) ?_
      refine VL.nil ?_
      refine VE.then_wp ?_
      refine V.block ?_
      refine V.loopc (G := Nat × (Option Addr) × Nat) [(4, _), (73, _), (74, _)] (fun ⟨i, ar1, cr1⟩ => i ≤ vs.length ∧ True) (fun ⟨i, ar1, cr1⟩ => [⟨ar1, bl (topL (f1, f2, f3) st wi hi de (scU vs (vs.length * 3)) ++ bodyU vs (scU vs (vs.length * 3)) (i * 3)), cr1 * 1, 5⟩, ⟨some ⟨b1, 0, none⟩, [.float .f32 f1, .float .f32 f2, .float .f32 f3, .float .f32 st, .int .i64 wi, .int .i64 hi, .int .i64 de, .slice a vs.length c], 8, 30⟩]) (fun ⟨i, ar1, cr1⟩ => [(9, .slice ar1 (topL (f1, f2, f3) st wi hi de (scU vs (vs.length * 3)) ++ bodyU vs (scU vs (vs.length * 3)) (i * 3)).length cr1), (75, .int .i64 (i : Int))]) (fun ⟨i, ar1, cr1⟩ => vs.length - i) (0, ar, cr) (.cons rfl (.cons rfl (.cons rfl .nil))) (.cons (congrArg (fun n => some (Value.slice _ n _)) (by rw [Nat.zero_mul, body_0, List.append_nil, ← topK_all, show k = 5 by omega])) (.cons rfl .nil)) ?_ ?_ ?_
      · exact (fun w hw => by
          obtain rfl : k = 5 := by omega
          dsimp only;
           rw [Nat.zero_mul, body_0, List.append_nil, ← topK_all]; exact hw.pick (by apply Pick.two; all_goals (repeat (first | exact Rem.here | apply Rem.there))))
      · exact (by exact ⟨Nat.zero_le _, trivial⟩)
      rintro ⟨i, ar1, cr1⟩ ⟨hi9, _⟩
      show V _ _ _ [⟨ar1, bl (topL (f1, f2, f3) st wi hi de (scU vs (vs.length * 3)) ++ bodyU vs (scU vs (vs.length * 3)) (i * 3)), cr1 * 1, 5⟩, ⟨some ⟨b1, 0, none⟩, [.float .f32 f1, .float .f32 f2, .float .f32 f3, .float .f32 st, .int .i64 wi, .int .i64 hi, .int .i64 de, .slice a vs.length c], 8, 30⟩] ([(9, .slice ar1 (topL (f1, f2, f3) st wi hi de (scU vs (vs.length * 3)) ++ bodyU vs (scU vs (vs.length * 3)) (i * 3)).length cr1), (75, .int .i64 (i : Int))] ++ [(4, _), (73, _), (74, _)]) _ _
      refine V.seq ?_
      refine V.region ?_
      refine VL.r (.inl rfl) rfl (by decide) (yr_icmp rfl (.inr (.inr (.inl rfl))) rfl rfl) ?_
      refine VL.nil ?_
      refine VE.then_wp ?_
      refine V.seq ?_
      refine V.cond rfl (fun h5 => ?_) (fun h5 => ?_)
      · skip
        replace h5 := ic_lss h5
        refine V.skip ?_
        refine VE.then_wp ?_
        refine V.seq ?_
        refine V.block ?_
        refine V.seq ?_
        refine V.region ?_
        refine VL.q (.inl rfl) rfl (by decide) (yq_idxN (k := i) rfl Try.underlying28 sz27_PkM rfl rfl (by first | exact Sees.root (by assumption) | exact Sees.own (by repeat (first | exact List.mem_cons_self | exact List.mem_append_left _ (by assumption) | apply List.mem_cons_of_mem | apply List.mem_append_right)) | exact Sees.root (hR _ (by omega)) | exact Sees.own (RowsIn.mem (by repeat (first | exact RowsIn.here | exact RowsIn.last | apply RowsIn.there | apply RowsIn.thereS)) _ (by omega)) | exact Sees.own (WRowsIn.mem (by repeat (first | exact WRowsIn.here | exact WRowsIn.last | apply WRowsIn.there | apply WRowsIn.thereS)) _ (by omega))) (by first | rfl | omega | (push_cast; rfl) | (push_cast; omega) | exact tmod_nat _ _) (by exact vl_length _) (by decide) (by first | omega | (simp only [List.length_cons, List.length_nil]; omega))) ?_
        refine VL.q (.inl rfl) rfl (by decide) (yq_loadV rfl Try.underlying27 sz27_PkM rfl (by first | exact Sees.root (by assumption) | exact Sees.own (by repeat (first | exact List.mem_cons_self | exact List.mem_append_left _ (by assumption) | apply List.mem_cons_of_mem | apply List.mem_append_right)) | exact Sees.root (hR _ (by omega)) | exact Sees.own (RowsIn.mem (by repeat (first | exact RowsIn.here | exact RowsIn.last | apply RowsIn.there | apply RowsIn.thereS)) _ (by omega)) | exact Sees.own (WRowsIn.mem (by repeat (first | exact WRowsIn.here | exact WRowsIn.last | apply WRowsIn.there | apply WRowsIn.thereS)) _ (by omega))) (by first | omega | (simp only [List.length_cons, List.length_nil]; omega))) ?_
        refine VL.new1 (.inl rfl) rfl (by decide) (yn_alloc rfl zero27_PkM rfl) ?_
        intro b13
        refine VL.s (.inl rfl) rfl (yc_store rfl sz27_PkM rfl rfl (by repeat (first | exact UpdF.here | apply UpdF.there | apply UpdF.thereS)) (.inr ⟨rfl, rfl⟩) rfl (by first | exact Nat.le_of_ble_eq_true rfl | simp) (by decide) rfl) ?_
        rintro ⟨⟩
        refine VL.nil ?_
        refine VE.then_wp ?_
        refine V.seq ?_
        refine V.region ?_
        refine VL.q (.inl rfl) rfl (by decide) (yq_loadS rfl Try.underlying27 sz27_PkM rfl (by first | exact Sees.root (by assumption) | exact Sees.own (by repeat (first | exact List.mem_cons_self | exact List.mem_append_left _ (by assumption) | apply List.mem_cons_of_mem | apply List.mem_append_right)) | exact Sees.root (hR _ (by omega)) | exact Sees.own (RowsIn.mem (by repeat (first | exact RowsIn.here | exact RowsIn.last | apply RowsIn.there | apply RowsIn.thereS)) _ (by omega)) | exact Sees.own (WRowsIn.mem (by repeat (first | exact WRowsIn.here | exact WRowsIn.last | apply WRowsIn.there | apply WRowsIn.thereS)) _ (by omega))) rfl rfl rfl) ?_
        refine VL.new1 (.inl rfl) rfl (by decide) (yn_callf rfl known96_PkM (.cons rfl .nil) (fun w hw => c_nums)) ?_
        intro b80
        refine VL.r (.inl rfl) rfl (by decide) (yr_len rfl Try.underlying86 rfl) ?_
        refine VL.r (.inl rfl) rfl (by decide) (yr_move (u := .int .i64 0) rfl rfl) ?_
        refine VL.nil ?_
        refine VE.then_wp ?_
        refine V.block ?_
        refine V.loopc (G := Nat × (Option Addr) × Nat) [(4, _), (73, _), (74, _), (75, _), (80, _), (81, _)] (fun ⟨j, ar2, cr2⟩ => j ≤ 3 ∧ True) (fun ⟨j, ar2, cr2⟩ => [⟨ar2, bl (topL (f1, f2, f3) st wi hi de (scU vs (vs.length * 3)) ++ bodyU vs (scU vs (vs.length * 3)) (i * 3 + j)), cr2 * 1, 5⟩, ⟨some ⟨b80, 0, none⟩, fl [(vs.getD i z3).1, (vs.getD i z3).2.1, (vs.getD i z3).2.2], 3 * 1, 23⟩, ⟨some ⟨b1, 0, none⟩, [.float .f32 f1, .float .f32 f2, .float .f32 f3, .float .f32 st, .int .i64 wi, .int .i64 hi, .int .i64 de, .slice a vs.length c], 8, 30⟩]) (fun ⟨j, ar2, cr2⟩ => [(9, .slice ar2 (topL (f1, f2, f3) st wi hi de (scU vs (vs.length * 3)) ++ bodyU vs (scU vs (vs.length * 3)) (i * 3 + j)).length cr2), (82, .int .i64 (j : Int))]) (fun ⟨j, ar2, cr2⟩ => 3 - j) (0, ar1, cr1) (.cons rfl (.cons rfl (.cons rfl (.cons rfl (.cons rfl (.cons rfl .nil)))))) (.cons rfl (.cons rfl .nil)) ?_ ?_ ?_
        · exact (fun w hw => hw.pick (by apply Pick.p3; all_goals (repeat (first | exact Rem.here | apply Rem.there))))
        · exact (by exact ⟨Nat.zero_le _, trivial⟩)
        rintro ⟨j, ar2, cr2⟩ ⟨hj, _⟩
        show V _ _ _ [⟨ar2, bl (topL (f1, f2, f3) st wi hi de (scU vs (vs.length * 3)) ++ bodyU vs (scU vs (vs.length * 3)) (i * 3 + j)), cr2 * 1, 5⟩, ⟨some ⟨b80, 0, none⟩, fl [(vs.getD i z3).1, (vs.getD i z3).2.1, (vs.getD i z3).2.2], 3 * 1, 23⟩, ⟨some ⟨b1, 0, none⟩, [.float .f32 f1, .float .f32 f2, .float .f32 f3, .float .f32 st, .int .i64 wi, .int .i64 hi, .int .i64 de, .slice a vs.length c], 8, 30⟩] ([(9, .slice ar2 (topL (f1, f2, f3) st wi hi de (scU vs (vs.length * 3)) ++ bodyU vs (scU vs (vs.length * 3)) (i * 3 + j)).length cr2), (82, .int .i64 (j : Int))] ++ [(4, _), (73, _), (74, _), (75, _), (80, _), (81, _)]) _ _
        refine V.seq ?_
        refine V.region ?_
        refine VL.r (.inl rfl) rfl (by decide) (yr_icmp rfl (.inr (.inr (.inl rfl))) rfl rfl) ?_
        refine VL.nil ?_
        refine VE.then_wp ?_
        refine V.seq ?_
        refine V.cond rfl (fun h6 => ?_) (fun h6 => ?_)
        · skip
          replace h6 := ic_lss h6
          refine V.skip ?_
          refine VE.then_wp ?_
          refine V.seq ?_
          refine V.block ?_
          refine V.seq ?_
          refine V.region ?_
          refine VL.q (.inl rfl) rfl (by decide) (yq_idx (k := j) rfl Try.underlying86 sz23_PkM rfl rfl (by first | exact Sees.root (by assumption) | exact Sees.own (by repeat (first | exact List.mem_cons_self | exact List.mem_append_left _ (by assumption) | apply List.mem_cons_of_mem | apply List.mem_append_right)) | exact Sees.root (hR _ (by omega)) | exact Sees.own (RowsIn.mem (by repeat (first | exact RowsIn.here | exact RowsIn.last | apply RowsIn.there | apply RowsIn.thereS)) _ (by omega)) | exact Sees.own (WRowsIn.mem (by repeat (first | exact WRowsIn.here | exact WRowsIn.last | apply WRowsIn.there | apply WRowsIn.thereS)) _ (by omega))) (by first | rfl | omega | (push_cast; rfl) | (push_cast; omega) | exact tmod_nat _ _) (by rfl) (by first | omega | (simp only [List.length_cons, List.length_nil]; omega))) ?_
          refine VL.q (.inl rfl) rfl (by decide) (yq_loadF rfl fb23_PkM rfl (by first | exact Sees.root (by assumption) | exact Sees.own (by repeat (first | exact List.mem_cons_self | exact List.mem_append_left _ (by assumption) | apply List.mem_cons_of_mem | apply List.mem_append_right)) | exact Sees.root (hR _ (by omega)) | exact Sees.own (RowsIn.mem (by repeat (first | exact RowsIn.here | exact RowsIn.last | apply RowsIn.there | apply RowsIn.thereS)) _ (by omega)) | exact Sees.own (WRowsIn.mem (by repeat (first | exact WRowsIn.here | exact WRowsIn.last | apply WRowsIn.there | apply WRowsIn.thereS)) _ (by omega))) (by first | omega | (simp only [List.length_cons, List.length_nil]; omega))) ?_
          refine VL.r (.inl rfl) rfl (by decide) (yr_assign rfl rfl) ?_
          refine VL.nil ?_
          refine VE.then_wp ?_
          refine V.seq ?_
          refine V.region ?_
          refine VL.r (.inl rfl) rfl (by decide) (yr_assign (u := .int .i64 0) rfl rfl) ?_
          refine VL.nil ?_
          refine VE.then_wp ?_
          refine V.seq ?_
          refine V.seq ?_
          refine V.region ?_
          refine VL.r (.inl rfl) rfl (by decide) (yr_move rfl rfl) ?_
          refine VL.r (.inl rfl) rfl (by decide) (yr_fcmp (b := 0) rfl (.inr (.inl rfl)) rfl rfl) ?_
          refine VL.nil ?_
          refine VE.then_wp ?_
          refine V.cond rfl (fun h7 => ?_) (fun h7 => ?_)
          · skip
            rw [pos_neq (allF_pos hall)] at h7
            refine V.region ?_
            refine VL.r (.inl rfl) rfl (by decide) (yr_move rfl rfl) ?_
            refine VL.r (.inl rfl) rfl (by decide) (yr_fconv rfl Try.underlying23 Try.underlying56 (by decide) rfl (fover_up _)) ?_
            refine VL.r (.inl rfl) rfl (by decide) (yr_move rfl rfl) ?_
            refine VL.r (.inl rfl) rfl (by decide) (yr_fconv rfl Try.underlying23 Try.underlying56 (by decide) rfl (fover_up _)) ?_
            refine VL.r (.inl rfl) rfl (by decide) (yr_float rfl (.inr (.inr (.inr rfl))) rfl rfl) ?_
            refine VL.r (.inl rfl) rfl (by decide) (yr_float (a := 4674736138332667904) rfl (.inr (.inr (.inl rfl))) rfl rfl) ?_
            refine VL.q (.inl rfl) rfl (by decide) (yq_ext rfl ext100_PkM (.cons rfl .nil) (fun vs w h => ext_round vs w h)) ?_
            refine VL.r (.inl rfl) rfl (by decide) (yr_toInt (i := qI (scU vs (vs.length * 3)) ([(vs.getD i z3).1, (vs.getD i z3).2.1, (vs.getD i z3).2.2].getD j 0)) rfl Try.underlying56 Try.underlying2 rfl (qI_isX hall (by assumption) (num_get (vs := vs) (i := i) (j := j) (by omega)) (by omega))) ?_
            refine VL.r (.inl rfl) rfl (by decide) (yr_assign rfl rfl) ?_
            refine VL.nil ?_
            refine VE.then_wp ?_
            refine V.region ?_
            refine VL.r (.inl rfl) rfl (by decide) (yr_move rfl rfl) ?_
            refine VL.r (.inl rfl) rfl (by decide) (yr_move rfl rfl) ?_
            refine VL.r (.inl rfl) rfl (by decide) (yr_intConv (r := w8 _) rfl Try.underlying2 Try.underlying5 rfl rfl) ?_
            refine VL.r (.inl rfl) rfl (by decide) (yr_move rfl rfl) ?_
            refine VL.r (.inl rfl) rfl (by decide) (yr_shr (b := 8) rfl rfl rfl rfl) ?_
            refine VL.r (.inl rfl) rfl (by decide) (yr_intConv (r := w8 _) rfl Try.underlying2 Try.underlying5 rfl rfl) ?_
            refine VL.new1 (.inl rfl) rfl (by decide) (yn_lit rfl Try.underlying50 elt5_PkM rfl (by decide) (.cons rfl (.cons rfl .nil)) (by first | (simp; done) | (simp [cn, cn1, cn0]; done)) rfl rfl rfl) ?_
            intro b102
            refine VL.c (.inl rfl) rfl (by decide) (yc_appendz 1 rfl rfl Try.underlying50 elt5_PkM rfl rfl (by repeat (first | exact UpdF.here | apply UpdF.there | apply UpdF.thereS)) (by first | exact Sees.root (by assumption) | exact Sees.own (by repeat (first | exact List.mem_cons_self | exact List.mem_append_left _ (by assumption) | apply List.mem_cons_of_mem | apply List.mem_append_right)) | exact Sees.root (hR _ (by omega)) | exact Sees.own (RowsIn.mem (by repeat (first | exact RowsIn.here | exact RowsIn.last | apply RowsIn.there | apply RowsIn.thereS)) _ (by omega)) | exact Sees.own (WRowsIn.mem (by repeat (first | exact WRowsIn.here | exact WRowsIn.last | apply WRowsIn.there | apply WRowsIn.thereS)) _ (by omega))) rfl (by first | rfl | (rw [bl_length, Nat.mul_one])) rfl (by first | rfl | exact bl_scal _) rfl (by first | omega | (rw [bd_len]; omega)) (by first | omega | (rw [bd_len]; omega))) ?_
            rintro ⟨a103, c103⟩
            refine VL.r (.inl rfl) rfl (by decide) (yr_assign rfl rfl) ?_
            refine VL.nil ?_
            refine VE.block_normal ?_
            refine VE.then_wp ?_
            refine V.region ?_
            refine VL.r (.inl rfl) rfl (by decide) (yr_int rfl rfl rfl (.inl ⟨rfl, wrap_in (by omega)⟩)) ?_
            refine VL.r (.inl rfl) rfl (by decide) (yr_move rfl rfl) ?_
            refine VL.nil ?_
            refine VE.round (j + 1, a103, c103) ?_ ?_ ?_ ?_ ?_
            · exact (.cons (congrArg (fun n => some (Value.slice _ n _)) (by rw [← Nat.add_assoc, bodyU, ← List.append_assoc, List.length_append (bs := [_, _])]; rfl)) (.cons rfl .nil))
            · exact (.cons rfl (.cons rfl (.cons rfl (.cons rfl (.cons rfl (.cons rfl .nil))))))
            · exact (fun w hw => by
                have h9 := hw.sub (List.sublist_cons_self _ _)
                dsimp only
                rw [← Nat.add_assoc, ← body_s (num_get (vs := vs) (i := i) (j := j) (by omega)) (q := _) (q2 := _) (by first | exact qz_y (by assumption) | exact qz_n (by assumption)) rfl]
                exact h9)
            · exact ⟨by omega, trivial⟩
            · (try dsimp only); omega
          · skip
            rw [pos_neq (allF_pos hall)] at h7
            refine V.skip ?_
            refine VE.then_wp ?_
            refine V.region ?_
            refine VL.r (.inl rfl) rfl (by decide) (yr_move rfl rfl) ?_
            refine VL.r (.inl rfl) rfl (by decide) (yr_move rfl rfl) ?_
            refine VL.r (.inl rfl) rfl (by decide) (yr_intConv (r := w8 _) rfl Try.underlying2 Try.underlying5 rfl rfl) ?_
            refine VL.r (.inl rfl) rfl (by decide) (yr_move rfl rfl) ?_
            refine VL.r (.inl rfl) rfl (by decide) (yr_shr (b := 8) rfl rfl rfl rfl) ?_
            refine VL.r (.inl rfl) rfl (by decide) (yr_intConv (r := w8 _) rfl Try.underlying2 Try.underlying5 rfl rfl) ?_
            refine VL.new1 (.inl rfl) rfl (by decide) (yn_lit rfl Try.underlying50 elt5_PkM rfl (by decide) (.cons rfl (.cons rfl .nil)) (by first | (simp; done) | (simp [cn, cn1, cn0]; done)) rfl rfl rfl) ?_
            intro b102
            refine VL.c (.inl rfl) rfl (by decide) (yc_appendz 1 rfl rfl Try.underlying50 elt5_PkM rfl rfl (by repeat (first | exact UpdF.here | apply UpdF.there | apply UpdF.thereS)) (by first | exact Sees.root (by assumption) | exact Sees.own (by repeat (first | exact List.mem_cons_self | exact List.mem_append_left _ (by assumption) | apply List.mem_cons_of_mem | apply List.mem_append_right)) | exact Sees.root (hR _ (by omega)) | exact Sees.own (RowsIn.mem (by repeat (first | exact RowsIn.here | exact RowsIn.last | apply RowsIn.there | apply RowsIn.thereS)) _ (by omega)) | exact Sees.own (WRowsIn.mem (by repeat (first | exact WRowsIn.here | exact WRowsIn.last | apply WRowsIn.there | apply WRowsIn.thereS)) _ (by omega))) rfl (by first | rfl | (rw [bl_length, Nat.mul_one])) rfl (by first | rfl | exact bl_scal _) rfl (by first | omega | (rw [bd_len]; omega)) (by first | omega | (rw [bd_len]; omega))) ?_
            rintro ⟨a103, c103⟩
            refine VL.r (.inl rfl) rfl (by decide) (yr_assign rfl rfl) ?_
            refine VL.nil ?_
            refine VE.block_normal ?_
            refine VE.then_wp ?_
            refine V.region ?_
            refine VL.r (.inl rfl) rfl (by decide) (yr_int rfl rfl rfl (.inl ⟨rfl, wrap_in (by omega)⟩)) ?_
            refine VL.r (.inl rfl) rfl (by decide) (yr_move rfl rfl) ?_
            refine VL.nil ?_
            refine VE.round (j + 1, a103, c103) ?_ ?_ ?_ ?_ ?_
            · exact (.cons (congrArg (fun n => some (Value.slice _ n _)) (by rw [← Nat.add_assoc, bodyU, ← List.append_assoc, List.length_append (bs := [_, _])]; rfl)) (.cons rfl .nil))
            · exact (.cons rfl (.cons rfl (.cons rfl (.cons rfl (.cons rfl (.cons rfl .nil))))))
            · exact (fun w hw => by
                have h9 := hw.sub (List.sublist_cons_self _ _)
                dsimp only
                rw [← Nat.add_assoc, ← body_s (num_get (vs := vs) (i := i) (j := j) (by omega)) (q := _) (q2 := _) (by first | exact qz_y (by assumption) | exact qz_n (by assumption)) rfl]
                exact h9)
            · exact ⟨by omega, trivial⟩
            · (try dsimp only); omega
        · skip
          replace h6 := ic_lss' h6
          refine V.exit ?_
          refine VE.then_exit ?_
          refine VE.then_exit ?_
          refine VE.block_here ?_
          refine VE.block_normal ?_
          refine VE.then_wp ?_
          refine V.region ?_
          refine VL.r (.inl rfl) rfl (by decide) (yr_int rfl rfl rfl (.inl ⟨rfl, wrap_in (by omega)⟩)) ?_
          refine VL.r (.inl rfl) rfl (by decide) (yr_move rfl rfl) ?_
          refine VL.nil ?_
          refine VE.round (i + 1, ar2, cr2) ?_ ?_ ?_ ?_ ?_
          · exact (.cons (congrArg (fun n => some (Value.slice _ n _)) (by rw [show (i + 1) * 3 = i * 3 + j by omega])) (.cons rfl .nil))
          · exact (.cons rfl (.cons rfl (.cons rfl .nil)))
          · exact (fun w hw => by dsimp only; rw [show (i + 1) * 3 = i * 3 + j by omega]; exact hw.pick (by apply Pick.two; all_goals (repeat (first | exact Rem.here | apply Rem.there))))
          · exact ⟨by omega, trivial⟩
          · (try dsimp only); omega
      · skip
        replace h5 := ic_lss' h5
        refine V.exit ?_
        refine VE.then_exit ?_
        refine VE.then_exit ?_
        refine VE.block_here ?_
        refine VE.then_wp ?_
        refine V.seq ?_
        refine V.region ?_
        refine VL.r (.inl rfl) rfl (by decide) (yr_move rfl rfl) ?_
        refine VL.q (.inl rfl) rfl (by decide) (yq_bts rfl Try.underlying50 Try.underlying5 Try.underlying9 rfl (by first | exact Sees.root (by assumption) | exact Sees.own (by repeat (first | exact List.mem_cons_self | exact List.mem_append_left _ (by assumption) | apply List.mem_cons_of_mem | apply List.mem_append_right)) | exact Sees.root (hR _ (by omega)) | exact Sees.own (RowsIn.mem (by repeat (first | exact RowsIn.here | exact RowsIn.last | apply RowsIn.there | apply RowsIn.thereS)) _ (by omega)) | exact Sees.own (WRowsIn.mem (by repeat (first | exact WRowsIn.here | exact WRowsIn.last | apply WRowsIn.there | apply WRowsIn.thereS)) _ (by omega))) rfl) ?_
        refine VL.r (.inl rfl) rfl (by decide) (yr_assign rfl rfl) ?_
        refine VL.r (.inl rfl) rfl (by decide) (yr_assign (u := .bool true) rfl rfl) ?_
        refine VL.nil ?_
        refine VE.then_wp ?_
        refine V.ret ?_
        refine ret2 rfl rfl rfl (by nofun) (by nofun) (fun w1 hw => ?_)
        first
          | (have h8 : allF vs (vs.length * 3) = false := allF_no hja (by rw [(num_get (vs := vs) (i := i) (j := j) (by omega))]; assumption) (by omega)
             exact ⟨by rw [h8]; rfl, hw.below⟩)
          | (obtain rfl : i = vs.length := by omega
             exact ⟨by rw [hall]; rfl, hw.below⟩)

end Go.Proofs.Ytnommdpgmoljcaa


namespace Go.Proofs.Ytnommdpgmoljcaa
open Go.RowKit
set_option linter.unusedVariables false
set_option linter.unusedSimpArgs false
set_option maxRecDepth 20000

theorem known125_PkS : Known Try.prog 125 := Known.mk' Try.func125 (by kernel_rfl)
theorem elt5_PkS : Elt Try.prog 5 [Value.int .u8 0] 1 := Elt.mk' (by kernel_rfl) (by decide)
theorem mixed_PkS : Try.prog.follows .mixedOrders = true := by kernel_rfl
theorem sz2_PkS : (Try.prog.info? 2).map (·.size) = some 1 := by kernel_rfl
theorem fb2_PkS : flatB Try.prog 2 = true := by kernel_rfl
theorem sz27_PkS : (Try.prog.info? 27).map (·.size) = some 3 := by kernel_rfl
theorem known127_PkS : Known Try.prog 127 := Known.mk' Try.func127 (by kernel_rfl)
theorem known126_PkS : Known Try.prog 126 := Known.mk' Try.func126 (by kernel_rfl)
theorem sz23_PkS : (Try.prog.info? 23).map (·.size) = some 1 := by kernel_rfl
theorem fb23_PkS : flatB Try.prog 23 = true := by kernel_rfl
theorem sz28_PkS : (Try.prog.info? 28).map (·.size) = some 1 := by kernel_rfl
theorem fb28_PkS : flatB Try.prog 28 = true := by kernel_rfl
theorem ext100_PkS : ExtF Try.prog 100 (Extern.MathFloor.toIntegral "math.RoundToEven" .even) := ⟨_, Try.func100, by kernel_rfl, by kernel_rfl, by kernel_rfl, by kernel_rfl⟩
attribute [local irreducible] fop fcmp fconv fneg fabs List.getD scN num part3 fround qI qz scU allF topK hdr

theorem c_specPack {w : World} {q : Option Addr} {f1 f2 f3 st : Nat} {wi hi de : Int} {a : Option Addr} {c : Nat} {vs : List V3} (hQ : Cl w q [.float .f32 f1, .float .f32 f2, .float .f32 f3, .float .f32 st, .int .i64 wi, .int .i64 hi, .int .i64 de, .slice a vs.length c]) (hA : Cl w a (vl vs)) (hX : Cans3 vs) (hf : Can3 (f1, f2, f3)) (hst : Can .f32 st) (hn : vs.length ≤ 1000) : Pure Try.prog 93 [.pointer (some (adr q 0))] w (.tuple #[.string (if allF vs (vs.length * 3) then stb (pkL (f1, f2, f3) st wi hi de vs) else ⟨#[]⟩), .bool (allF vs (vs.length * 3))]) := by
  refine Pure.enter Try.func93 rfl Try.ntmps93 (Nat.le_of_ble_eq_true rfl) ?_
  refine V.seq ?_
  refine V.region ?_
  refine VL.r (.inl rfl) rfl (by decide) (yr_assign rfl rfl) ?_
  refine VL.r (.inl rfl) rfl (by decide) (yr_assign (u := .bool false) rfl rfl) ?_
  refine VL.nil ?_
  refine VE.then_wp ?_
  refine V.seq ?_
  refine V.region ?_
  refine VL.r (.inl rfl) rfl (by decide) (yr_move rfl rfl) ?_
  refine VL.q (.inl rfl) rfl (by decide) (yq_callf rfl known125_PkS (.cons rfl .nil) (fun w hw => (c_scale (by first | exact Sees.root (by assumption) w hw | exact Sees.own (by repeat (first | exact List.mem_cons_self | exact List.mem_append_left _ (by assumption) | apply List.mem_cons_of_mem | apply List.mem_append_right)) w hw) (by first | exact Sees.root (by assumption) w hw | exact Sees.own (by repeat (first | exact List.mem_cons_self | exact List.mem_append_left _ (by assumption) | apply List.mem_cons_of_mem | apply List.mem_append_right)) w hw) hX (by omega)))) ?_
  refine VL.r (.inl rfl) rfl (by decide) (yr_move rfl rfl) ?_
  refine VL.r (.inl rfl) rfl (by decide) (yr_extract rfl rfl rfl (by nofun)) ?_
  refine VL.r (.inl rfl) rfl (by decide) (yr_extract rfl rfl rfl (by nofun)) ?_
  refine VL.r (.inl rfl) rfl (by decide) (yr_assign rfl rfl) ?_
  refine VL.r (.inl rfl) rfl (by decide) (yr_assign rfl rfl) ?_
  refine VL.nil ?_
  refine VE.then_wp ?_
  refine V.seq ?_
  refine V.seq ?_
  refine V.region ?_
  refine VL.r (.inl rfl) rfl (by decide) (yr_move rfl rfl) ?_
  refine VL.r (.inl rfl) rfl (by decide) (yr_not rfl rfl) ?_
  refine VL.nil ?_
  refine VE.then_wp ?_
  refine V.cond rfl (fun h1 => ?_) (fun h1 => ?_)
  · skip
    replace h1 := bnot_t h1
    refine V.seq ?_
    refine V.region ?_
    refine VL.r (.inl rfl) rfl (by decide) (yr_assign rfl rfl) ?_
    refine VL.r (.inl rfl) rfl (by decide) (yr_assign (u := .bool false) rfl rfl) ?_
    refine VL.nil ?_
    refine VE.then_wp ?_
    refine V.ret ?_
    refine VE.then_ret ?_
    refine ret2 rfl rfl rfl (by nofun) (by nofun) (fun w1 hw => ?_)
    first
      | (have h8 : allF vs (vs.length * 3) = false := by assumption
         exact ⟨by rw [h8]; rfl, hw.below⟩)
      | (obtain rfl : i = vs.length := by omega
         exact ⟨by rw [hall]; rfl, hw.below⟩)
  · skip
    replace h1 := bnot_f h1
    have hall : allF vs (vs.length * 3) = true := h1
    rw [if_pos hall]
    refine V.skip ?_
    refine VE.then_wp ?_
    refine V.seq ?_
    refine V.region ?_
    refine VL.new1 (.inl rfl) rfl (by decide) (yn_lit rfl Try.underlying50 elt5_PkS rfl (by decide) (.cons rfl (.cons rfl (.cons rfl (.cons rfl .nil)))) (by first | (simp; done) | (simp [cn, cn1, cn0]; done)) rfl rfl rfl) ?_
    intro b19
    refine VL.c (.inl rfl) rfl (by decide) (yc_own8 rfl Try.underlying50 Try.underlying5 rfl (by repeat (first | exact List.mem_cons_self | apply List.mem_cons_of_mem)) (by decide)) ?_
    rintro ⟨⟩
    refine VL.r (.inl rfl) rfl (by decide) (yr_assign rfl rfl) ?_
    refine VL.nil ?_
    refine VE.then_wp ?_
    refine V.seq ?_
    refine Dr.V.drawR [(0, 5), (1, 5), (2, 5), (3, 5), (4, 5), (5, 5), (6, 5), (7, 5), (8, 5), (9, 5), (10, 5), (11, 5), (12, 5), (13, 5), (14, 5), (15, 5), (16, 1), (17, 3), (18, 5)] [] [⟨some ⟨b19, 0, none⟩, bl [77, 83, 72, 49], 4 * 1, 5⟩] [] mixed_PkS (by kernel_rfl) (fun w hw => hw) ?_
    refine Dr.SW.r rfl (.inl rfl) rfl (by decide) (yr_move rfl rfl) ?_
    refine Dr.SW.r rfl (.inl rfl) rfl (by decide) (yr_move rfl rfl) ?_
    refine Dr.SW.r rfl (.inl rfl) rfl (by decide) (yr_nilCheck rfl rfl) ?_
    refine Dr.SW.r rfl (.inl rfl) rfl (by decide) (yr_fieldAddr rfl Try.underlying30 rfl rfl sz2_PkS (by decide) rfl) ?_
    refine Dr.SW.p rfl (.inl rfl) rfl (by decide) (yq_load rfl fb2_PkS rfl (by first | exact Sees.root (by assumption) | exact Sees.own (by (try simp only [List.append_assoc, List.cons_append, List.nil_append]); repeat (first | exact List.mem_cons_self | exact List.mem_append_left _ (by assumption) | apply List.mem_cons_of_mem | apply List.mem_append_right)) | exact Sees.root (hR _ (by omega)) | exact Sees.own (RowsIn.mem (by (try simp only [List.append_assoc, List.cons_append, List.nil_append]); repeat (first | exact RowsIn.here | exact RowsIn.last | apply RowsIn.there | apply RowsIn.thereS)) _ (by omega)) | exact Sees.own (WRowsIn.mem (by (try simp only [List.append_assoc, List.cons_append, List.nil_append]); repeat (first | exact WRowsIn.here | exact WRowsIn.last | apply WRowsIn.there | apply WRowsIn.thereS)) _ (by omega))) rfl) ?_
    refine Dr.SW.r rfl (.inl rfl) rfl (by decide) (yr_intConv (r := w8 _) rfl Try.underlying2 Try.underlying5 rfl rfl) ?_
    refine Dr.SW.r rfl (.inl rfl) rfl (by decide) (yr_move rfl rfl) ?_
    refine Dr.SW.r rfl (.inl rfl) rfl (by decide) (yr_nilCheck rfl rfl) ?_
    refine Dr.SW.r rfl (.inl rfl) rfl (by decide) (yr_fieldAddr rfl Try.underlying30 rfl rfl sz2_PkS (by decide) rfl) ?_
    refine Dr.SW.p rfl (.inl rfl) rfl (by decide) (yq_load rfl fb2_PkS rfl (by first | exact Sees.root (by assumption) | exact Sees.own (by (try simp only [List.append_assoc, List.cons_append, List.nil_append]); repeat (first | exact List.mem_cons_self | exact List.mem_append_left _ (by assumption) | apply List.mem_cons_of_mem | apply List.mem_append_right)) | exact Sees.root (hR _ (by omega)) | exact Sees.own (RowsIn.mem (by (try simp only [List.append_assoc, List.cons_append, List.nil_append]); repeat (first | exact RowsIn.here | exact RowsIn.last | apply RowsIn.there | apply RowsIn.thereS)) _ (by omega)) | exact Sees.own (WRowsIn.mem (by (try simp only [List.append_assoc, List.cons_append, List.nil_append]); repeat (first | exact WRowsIn.here | exact WRowsIn.last | apply WRowsIn.there | apply WRowsIn.thereS)) _ (by omega))) rfl) ?_
    refine Dr.SW.r rfl (.inl rfl) rfl (by decide) (yr_intConv (r := w8 _) rfl Try.underlying2 Try.underlying5 rfl rfl) ?_
    refine Dr.SW.r rfl (.inl rfl) rfl (by decide) (yr_move rfl rfl) ?_
    refine Dr.SW.r rfl (.inl rfl) rfl (by decide) (yr_nilCheck rfl rfl) ?_
    refine Dr.SW.r rfl (.inl rfl) rfl (by decide) (yr_fieldAddr rfl Try.underlying30 rfl rfl sz2_PkS (by decide) rfl) ?_
    refine Dr.SW.p rfl (.inl rfl) rfl (by decide) (yq_load rfl fb2_PkS rfl (by first | exact Sees.root (by assumption) | exact Sees.own (by (try simp only [List.append_assoc, List.cons_append, List.nil_append]); repeat (first | exact List.mem_cons_self | exact List.mem_append_left _ (by assumption) | apply List.mem_cons_of_mem | apply List.mem_append_right)) | exact Sees.root (hR _ (by omega)) | exact Sees.own (RowsIn.mem (by (try simp only [List.append_assoc, List.cons_append, List.nil_append]); repeat (first | exact RowsIn.here | exact RowsIn.last | apply RowsIn.there | apply RowsIn.thereS)) _ (by omega)) | exact Sees.own (WRowsIn.mem (by (try simp only [List.append_assoc, List.cons_append, List.nil_append]); repeat (first | exact WRowsIn.here | exact WRowsIn.last | apply WRowsIn.there | apply WRowsIn.thereS)) _ (by omega))) rfl) ?_
    refine Dr.SW.r rfl (.inl rfl) rfl (by decide) (yr_intConv (r := w8 _) rfl Try.underlying2 Try.underlying5 rfl rfl) ?_
    refine Dr.SW.new1 rfl (.inl rfl) rfl (by decide) (yn_lit rfl Try.underlying50 elt5_PkS rfl (by decide) (.cons rfl (.cons rfl (.cons rfl .nil))) (by first | (simp; done) | (simp [cn, cn1, cn0]; done)) rfl rfl rfl) ?_
    intro b37
    refine Dr.SW.c rfl (.inl rfl) rfl (by decide) (yc_appendz 1 rfl rfl Try.underlying50 elt5_PkS rfl rfl (Dr.UpdF.app (by repeat (first | exact UpdF.here | apply UpdF.there | apply UpdF.thereS))) (by first | exact Sees.root (by assumption) | exact Sees.own (by (try simp only [List.append_assoc, List.cons_append, List.nil_append]); repeat (first | exact List.mem_cons_self | exact List.mem_append_left _ (by assumption) | apply List.mem_cons_of_mem | apply List.mem_append_right)) | exact Sees.root (hR _ (by omega)) | exact Sees.own (RowsIn.mem (by (try simp only [List.append_assoc, List.cons_append, List.nil_append]); repeat (first | exact RowsIn.here | exact RowsIn.last | apply RowsIn.there | apply RowsIn.thereS)) _ (by omega)) | exact Sees.own (WRowsIn.mem (by (try simp only [List.append_assoc, List.cons_append, List.nil_append]); repeat (first | exact WRowsIn.here | exact WRowsIn.last | apply WRowsIn.there | apply WRowsIn.thereS)) _ (by omega))) rfl (by first | rfl | (rw [bl_length, Nat.mul_one]) | (simp only [List.length_append, bl_length, Nat.mul_one]; done) | (simp only [List.length_append, bl_length, Nat.mul_one]; rfl)) (by first | rfl | exact bl_length _) (by first | rfl | exact bl_scal _ | (rw [bl_append]; exact bl_scal _)) (by first | rfl | exact bl_scal _) (by first | omega | (rw [bd_len]; omega) | (have := topK_le (f := (f1, f2, f3)) (st := st) (s := (scU vs (vs.length * 3))) (wi := wi) (hi := hi) (de := de) (k := k) (by omega); omega)) (by first | omega | (rw [bd_len]; omega) | (have := topK_le (f := (f1, f2, f3)) (st := st) (s := (scU vs (vs.length * 3))) (wi := wi) (hi := hi) (de := de) (k := k) (by omega); omega))) ?_
    rintro ⟨a38, c38⟩
    refine Dr.SW.r rfl (.inl rfl) rfl (by decide) (yr_assign rfl rfl) ?_
    refine Dr.SW.done ?_
    refine Dr.eqO (by simp only [List.append_nil, List.append_assoc, List.cons_append, List.nil_append] <;> rfl) ?_
    refine VE.then_wp ?_
    refine V.seq ?_
    refine V.seq ?_
    refine V.region ?_
    refine VL.r (.inl rfl) rfl (by decide) (yr_assign (u := .int .i64 0) rfl rfl) ?_
    refine VL.nil ?_
    refine VE.then_wp ?_
    refine V.block ?_
    refine V.loopc (G := Nat × (Option Addr) × Nat) [(0, _), (4, _)] (fun ⟨k, ar, cr⟩ => k ≤ 3 ∧ True) (fun ⟨k, ar, cr⟩ => [⟨ar, bl (hdr wi hi de ++ topK (f1, f2, f3) st (scU vs (vs.length * 3)) (k)), cr * 1, 5⟩]) (fun ⟨k, ar, cr⟩ => [(6, .slice ar (hdr wi hi de ++ topK (f1, f2, f3) st (scU vs (vs.length * 3)) (k)).length cr), (7, .int .i64 (k : Int))]) (fun ⟨k, ar, cr⟩ => 3 - k) (0, a38, c38) (.cons rfl (.cons rfl .nil)) (.cons (congrArg (fun n => some (Value.slice _ n _)) (by rw [topK_0]; rfl)) (.cons rfl .nil)) ?_ ?_ ?_
    · exact (fun w hw => by dsimp only; rw [topK_0]; exact hw.pick (by apply Pick.one; repeat (first | exact Rem.here | apply Rem.there)))
    · exact (by exact ⟨Nat.zero_le _, trivial⟩)
    rintro ⟨k, ar, cr⟩ ⟨hk, _⟩
    show V _ _ _ [⟨ar, bl (hdr wi hi de ++ topK (f1, f2, f3) st (scU vs (vs.length * 3)) (k)), cr * 1, 5⟩] ([(6, .slice ar (hdr wi hi de ++ topK (f1, f2, f3) st (scU vs (vs.length * 3)) (k)).length cr), (7, .int .i64 (k : Int))] ++ [(0, _), (4, _)]) _ _
    refine V.seq ?_
    refine V.seq ?_
    refine V.region ?_
    refine VL.r (.inl rfl) rfl (by decide) (yr_move rfl rfl) ?_
    refine VL.r (.inl rfl) rfl (by decide) (yr_icmp rfl (.inr (.inr (.inl rfl))) rfl rfl) ?_
    refine VL.nil ?_
    refine VE.then_wp ?_
    refine V.cond rfl (fun h2 => ?_) (fun h2 => ?_)
    · skip
      replace h2 := ic_lss h2
      refine V.skip ?_
      refine VE.then_wp ?_
      refine V.seq ?_
      refine V.block ?_
      refine V.region ?_
      refine VL.r (.inl rfl) rfl (by decide) (yr_move rfl rfl) ?_
      refine VL.r (.inl rfl) rfl (by decide) (yr_move rfl rfl) ?_
      refine VL.r (.inl rfl) rfl (by decide) (yr_nilCheck rfl rfl) ?_
      refine VL.r (.inl rfl) rfl (by decide) (yr_fieldAddr rfl Try.underlying30 rfl rfl sz27_PkS (by decide) rfl) ?_
      refine VL.q (.inl rfl) rfl (by decide) (yq_loadS rfl Try.underlying27 sz27_PkS rfl (by first | exact Sees.root (by assumption) | exact Sees.own (by repeat (first | exact List.mem_cons_self | exact List.mem_append_left _ (by assumption) | apply List.mem_cons_of_mem | apply List.mem_append_right)) | exact Sees.root (hR _ (by omega)) | exact Sees.own (RowsIn.mem (by repeat (first | exact RowsIn.here | exact RowsIn.last | apply RowsIn.there | apply RowsIn.thereS)) _ (by omega)) | exact Sees.own (WRowsIn.mem (by repeat (first | exact WRowsIn.here | exact WRowsIn.last | apply WRowsIn.there | apply WRowsIn.thereS)) _ (by omega))) rfl rfl rfl) ?_
      refine VL.r (.inl rfl) rfl (by decide) (yr_move rfl rfl) ?_
      refine VL.q (.inl rfl) rfl (by decide) (yq_callf rfl known127_PkS (.cons rfl (.cons rfl .nil)) (fun w hw => (c_part (j := k) (by omega)))) ?_
      refine VL.new1 (.inl rfl) rfl (by decide) (yn_callf rfl known126_PkS (.cons rfl .nil) (fun w hw => (c_four (can_part hf)))) ?_
      intro b50
      refine VL.c (.inl rfl) rfl (by decide) (yc_appendz 1 rfl rfl Try.underlying50 elt5_PkS rfl rfl (by repeat (first | exact UpdF.here | apply UpdF.there | apply UpdF.thereS)) (by first | exact Sees.root (by assumption) | exact Sees.own (by repeat (first | exact List.mem_cons_self | exact List.mem_append_left _ (by assumption) | apply List.mem_cons_of_mem | apply List.mem_append_right)) | exact Sees.root (hR _ (by omega)) | exact Sees.own (RowsIn.mem (by repeat (first | exact RowsIn.here | exact RowsIn.last | apply RowsIn.there | apply RowsIn.thereS)) _ (by omega)) | exact Sees.own (WRowsIn.mem (by repeat (first | exact WRowsIn.here | exact WRowsIn.last | apply WRowsIn.there | apply WRowsIn.thereS)) _ (by omega))) rfl (by first | rfl | (rw [bl_length, Nat.mul_one]) | (simp only [List.length_append, bl_length, Nat.mul_one]; done) | (simp only [List.length_append, bl_length, Nat.mul_one]; rfl)) (by first | rfl | exact bl_length _) (by first | rfl | exact bl_scal _ | (rw [bl_append]; exact bl_scal _)) (by first | rfl | exact bl_scal _) (by first | omega | (rw [bd_len]; omega) | (have := topK_le (f := (f1, f2, f3)) (st := st) (s := (scU vs (vs.length * 3))) (wi := wi) (hi := hi) (de := de) (k := k) (by omega); omega)) (by first | omega | (rw [bd_len]; omega) | (have := topK_le (f := (f1, f2, f3)) (st := st) (s := (scU vs (vs.length * 3))) (wi := wi) (hi := hi) (de := de) (k := k) (by omega); omega))) ?_
      rintro ⟨a51, c51⟩
      refine VL.r (.inl rfl) rfl (by decide) (yr_assign rfl rfl) ?_
      refine VL.nil ?_
      refine VE.block_normal ?_
      refine VE.then_wp ?_
      refine V.region ?_
      refine VL.r (.inl rfl) rfl (by decide) (yr_move rfl rfl) ?_
      refine VL.r (.inl rfl) rfl (by decide) (yr_int rfl rfl rfl (.inl ⟨rfl, wrap_in (by omega)⟩)) ?_
      refine VL.r (.inl rfl) rfl (by decide) (yr_assign rfl rfl) ?_
      refine VL.nil ?_
      refine VE.round (k + 1, a51, c51) ?_ ?_ ?_ ?_ ?_
      · exact (.cons (congrArg (fun n => some (Value.slice _ n _)) (by rw [topK_succ (by omega), ← List.append_assoc, List.length_append (bs := four _)]; rfl)) (.cons rfl .nil))
      · exact (.cons rfl (.cons rfl .nil))
      · exact (fun w hw => by dsimp only; rw [topK_succ (by omega), ← part_top (by omega), ← List.append_assoc, ← bl_append]; exact hw.pick (by apply Pick.one; repeat (first | exact Rem.here | apply Rem.there)))
      · exact ⟨by omega, trivial⟩
      · (try dsimp only); omega
    · skip
      replace h2 := ic_lss' h2
      refine V.exit ?_
      refine VE.then_exit ?_
      refine VE.then_exit ?_
      refine VE.block_here ?_
      refine VE.then_wp ?_
      refine V.seq ?_
      refine V.region ?_
      refine VL.r (.inl rfl) rfl (by decide) (yr_move rfl rfl) ?_
      refine VL.r (.inl rfl) rfl (by decide) (yr_move rfl rfl) ?_
      refine VL.r (.inl rfl) rfl (by decide) (yr_nilCheck rfl rfl) ?_
      refine VL.r (.inl rfl) rfl (by decide) (yr_fieldAddr rfl Try.underlying30 rfl rfl sz23_PkS (by decide) rfl) ?_
      refine VL.q (.inl rfl) rfl (by decide) (yq_load rfl fb23_PkS rfl (by first | exact Sees.root (by assumption) | exact Sees.own (by repeat (first | exact List.mem_cons_self | exact List.mem_append_left _ (by assumption) | apply List.mem_cons_of_mem | apply List.mem_append_right)) | exact Sees.root (hR _ (by omega)) | exact Sees.own (RowsIn.mem (by repeat (first | exact RowsIn.here | exact RowsIn.last | apply RowsIn.there | apply RowsIn.thereS)) _ (by omega)) | exact Sees.own (WRowsIn.mem (by repeat (first | exact WRowsIn.here | exact WRowsIn.last | apply WRowsIn.there | apply WRowsIn.thereS)) _ (by omega))) rfl) ?_
      refine VL.new1 (.inl rfl) rfl (by decide) (yn_callf rfl known126_PkS (.cons rfl .nil) (fun w hw => (c_four hst))) ?_
      intro b57
      refine VL.c (.inl rfl) rfl (by decide) (yc_appendz 1 rfl rfl Try.underlying50 elt5_PkS rfl rfl (by repeat (first | exact UpdF.here | apply UpdF.there | apply UpdF.thereS)) (by first | exact Sees.root (by assumption) | exact Sees.own (by repeat (first | exact List.mem_cons_self | exact List.mem_append_left _ (by assumption) | apply List.mem_cons_of_mem | apply List.mem_append_right)) | exact Sees.root (hR _ (by omega)) | exact Sees.own (RowsIn.mem (by repeat (first | exact RowsIn.here | exact RowsIn.last | apply RowsIn.there | apply RowsIn.thereS)) _ (by omega)) | exact Sees.own (WRowsIn.mem (by repeat (first | exact WRowsIn.here | exact WRowsIn.last | apply WRowsIn.there | apply WRowsIn.thereS)) _ (by omega))) rfl (by first | rfl | (rw [bl_length, Nat.mul_one]) | (simp only [List.length_append, bl_length, Nat.mul_one]; done) | (simp only [List.length_append, bl_length, Nat.mul_one]; rfl)) (by first | rfl | exact bl_length _) (by first | rfl | exact bl_scal _ | (rw [bl_append]; exact bl_scal _)) (by first | rfl | exact bl_scal _) (by first | omega | (rw [bd_len]; omega) | (have := topK_le (f := (f1, f2, f3)) (st := st) (s := (scU vs (vs.length * 3))) (wi := wi) (hi := hi) (de := de) (k := k) (by omega); omega)) (by first | omega | (rw [bd_len]; omega) | (have := topK_le (f := (f1, f2, f3)) (st := st) (s := (scU vs (vs.length * 3))) (wi := wi) (hi := hi) (de := de) (k := k) (by omega); omega))) ?_
      rintro ⟨a58, c58⟩
      refine VL.r (.inl rfl) rfl (by decide) (yr_assign rfl rfl) ?_
      refine VL.nil ?_
      refine VE.then_wp ?_
      refine V.seq ?_
      refine V.region ?_
      refine VL.r (.inl rfl) rfl (by decide) (yr_move rfl rfl) ?_
      refine VL.r (.inl rfl) rfl (by decide) (yr_move rfl rfl) ?_
      refine VL.new1 (.inl rfl) rfl (by decide) (yn_callf rfl known126_PkS (.cons rfl .nil) (fun w hw => (c_four (can_scU _)))) ?_
      intro b61
      refine VL.c (.inl rfl) rfl (by decide) (yc_appendz 1 rfl rfl Try.underlying50 elt5_PkS rfl rfl (by repeat (first | exact UpdF.here | apply UpdF.there | apply UpdF.thereS)) (by first | exact Sees.root (by assumption) | exact Sees.own (by repeat (first | exact List.mem_cons_self | exact List.mem_append_left _ (by assumption) | apply List.mem_cons_of_mem | apply List.mem_append_right)) | exact Sees.root (hR _ (by omega)) | exact Sees.own (RowsIn.mem (by repeat (first | exact RowsIn.here | exact RowsIn.last | apply RowsIn.there | apply RowsIn.thereS)) _ (by omega)) | exact Sees.own (WRowsIn.mem (by repeat (first | exact WRowsIn.here | exact WRowsIn.last | apply WRowsIn.there | apply WRowsIn.thereS)) _ (by omega))) rfl (by first | rfl | (rw [bl_length, Nat.mul_one]) | (simp only [List.length_append, bl_length, Nat.mul_one]; done) | (simp only [List.length_append, bl_length, Nat.mul_one]; rfl)) (by first | rfl | exact bl_length _) (by first | rfl | exact bl_scal _ | (rw [bl_append]; exact bl_scal _)) (by first | rfl | exact bl_scal _) (by first | omega | (rw [bd_len]; omega) | (have := topK_le (f := (f1, f2, f3)) (st := st) (s := (scU vs (vs.length * 3))) (wi := wi) (hi := hi) (de := de) (k := k) (by omega); omega)) (by first | omega | (rw [bd_len]; omega) | (have := topK_le (f := (f1, f2, f3)) (st := st) (s := (scU vs (vs.length * 3))) (wi := wi) (hi := hi) (de := de) (k := k) (by omega); omega))) ?_
      rintro ⟨a62, c62⟩
      refine VL.r (.inl rfl) rfl (by decide) (yr_assign rfl rfl) ?_
      refine VL.nil ?_
      refine VE.then_wp ?_
      refine V.seq ?_
      refine V.seq ?_
      refine V.region ?_
      refine VL.r (.inl rfl) rfl (by decide) (yr_assign (u := .int .i64 0) rfl rfl) ?_
      refine VL.nil ?_
      refine VE.then_wp ?_
      refine V.block ?_
      refine V.loopc (G := Nat × (Option Addr) × Nat) [(0, _), (4, _)] (fun ⟨i, ar1, cr1⟩ => i ≤ vs.length ∧ True) (fun ⟨i, ar1, cr1⟩ => [⟨ar1, bl (topL (f1, f2, f3) st wi hi de (scU vs (vs.length * 3)) ++ bodyU vs (scU vs (vs.length * 3)) (i * 3)), cr1 * 1, 5⟩]) (fun ⟨i, ar1, cr1⟩ => [(6, .slice ar1 (topL (f1, f2, f3) st wi hi de (scU vs (vs.length * 3)) ++ bodyU vs (scU vs (vs.length * 3)) (i * 3)).length cr1), (8, .int .i64 (i : Int))]) (fun ⟨i, ar1, cr1⟩ => vs.length - i) (0, a62, c62) (.cons rfl (.cons rfl .nil)) (.cons (congrArg (fun n => some (Value.slice _ n _)) (by rw [Nat.zero_mul, body_0, List.append_nil, ← top3, show k = 3 by omega, List.length_append (bs := four (scU vs (vs.length * 3))), List.length_append (bs := four st)]; rfl)) (.cons rfl .nil)) ?_ ?_ ?_
      · exact (fun w hw => by
          obtain rfl : k = 3 := by omega
          dsimp only
          rw [Nat.zero_mul, body_0, List.append_nil, ← top3, ← bl_append, ← bl_append]
          exact hw.pick (by apply Pick.one; repeat (first | exact Rem.here | apply Rem.there)))
      · exact (by exact ⟨Nat.zero_le _, trivial⟩)
      rintro ⟨i, ar1, cr1⟩ ⟨hi9, _⟩
      show V _ _ _ [⟨ar1, bl (topL (f1, f2, f3) st wi hi de (scU vs (vs.length * 3)) ++ bodyU vs (scU vs (vs.length * 3)) (i * 3)), cr1 * 1, 5⟩] ([(6, .slice ar1 (topL (f1, f2, f3) st wi hi de (scU vs (vs.length * 3)) ++ bodyU vs (scU vs (vs.length * 3)) (i * 3)).length cr1), (8, .int .i64 (i : Int))] ++ [(0, _), (4, _)]) _ _
      refine V.seq ?_
      refine V.seq ?_
      refine V.region ?_
      refine VL.r (.inl rfl) rfl (by decide) (yr_move rfl rfl) ?_
      refine VL.r (.inl rfl) rfl (by decide) (yr_move rfl rfl) ?_
      refine VL.r (.inl rfl) rfl (by decide) (yr_nilCheck rfl rfl) ?_
      refine VL.r (.inl rfl) rfl (by decide) (yr_fieldAddr rfl Try.underlying30 rfl rfl sz28_PkS (by decide) rfl) ?_
      refine VL.q (.inl rfl) rfl (by decide) (yq_load rfl fb28_PkS rfl (by first | exact Sees.root (by assumption) | exact Sees.own (by repeat (first | exact List.mem_cons_self | exact List.mem_append_left _ (by assumption) | apply List.mem_cons_of_mem | apply List.mem_append_right)) | exact Sees.root (hR _ (by omega)) | exact Sees.own (RowsIn.mem (by repeat (first | exact RowsIn.here | exact RowsIn.last | apply RowsIn.there | apply RowsIn.thereS)) _ (by omega)) | exact Sees.own (WRowsIn.mem (by repeat (first | exact WRowsIn.here | exact WRowsIn.last | apply WRowsIn.there | apply WRowsIn.thereS)) _ (by omega))) rfl) ?_
      refine VL.r (.inl rfl) rfl (by decide) (yr_len rfl Try.underlying28 rfl) ?_
      refine VL.r (.inl rfl) rfl (by decide) (yr_icmp rfl (.inr (.inr (.inl rfl))) rfl rfl) ?_
      refine VL.nil ?_
      refine VE.then_wp ?_
      refine V.cond rfl (fun h3 => ?_) (fun h3 => ?_)
      · skip
        replace h3 := ic_lss h3
        refine V.skip ?_
        refine VE.then_wp ?_
        refine V.seq ?_
        refine V.block ?_
        refine V.seq ?_
        refine V.region ?_
        refine VL.r (.inl rfl) rfl (by decide) (yr_assign (u := .int .i64 0) rfl rfl) ?_
        refine VL.nil ?_
        refine VE.then_wp ?_
        refine V.block ?_
        refine V.loopc (G := Nat × (Option Addr) × Nat) [(0, _), (4, _), (8, _)] (fun ⟨j, ar2, cr2⟩ => j ≤ 3 ∧ True) (fun ⟨j, ar2, cr2⟩ => [⟨ar2, bl (topL (f1, f2, f3) st wi hi de (scU vs (vs.length * 3)) ++ bodyU vs (scU vs (vs.length * 3)) (i * 3 + j)), cr2 * 1, 5⟩]) (fun ⟨j, ar2, cr2⟩ => [(6, .slice ar2 (topL (f1, f2, f3) st wi hi de (scU vs (vs.length * 3)) ++ bodyU vs (scU vs (vs.length * 3)) (i * 3 + j)).length cr2), (9, .int .i64 (j : Int))]) (fun ⟨j, ar2, cr2⟩ => 3 - j) (0, ar1, cr1) (.cons rfl (.cons rfl (.cons rfl .nil))) (.cons rfl (.cons rfl .nil)) ?_ ?_ ?_
        · exact (fun w hw => hw)
        · exact (by exact ⟨Nat.zero_le _, trivial⟩)
        rintro ⟨j, ar2, cr2⟩ ⟨hj, _⟩
        show V _ _ _ [⟨ar2, bl (topL (f1, f2, f3) st wi hi de (scU vs (vs.length * 3)) ++ bodyU vs (scU vs (vs.length * 3)) (i * 3 + j)), cr2 * 1, 5⟩] ([(6, .slice ar2 (topL (f1, f2, f3) st wi hi de (scU vs (vs.length * 3)) ++ bodyU vs (scU vs (vs.length * 3)) (i * 3 + j)).length cr2), (9, .int .i64 (j : Int))] ++ [(0, _), (4, _), (8, _)]) _ _
        refine V.seq ?_
        refine V.seq ?_
        refine V.region ?_
        refine VL.r (.inl rfl) rfl (by decide) (yr_move rfl rfl) ?_
        refine VL.r (.inl rfl) rfl (by decide) (yr_icmp rfl (.inr (.inr (.inl rfl))) rfl rfl) ?_
        refine VL.nil ?_
        refine VE.then_wp ?_
        refine V.cond rfl (fun h4 => ?_) (fun h4 => ?_)
        · skip
          replace h4 := ic_lss h4
          refine V.skip ?_
          refine VE.then_wp ?_
          refine V.seq ?_
          refine V.block ?_
          refine V.seq ?_
          refine V.region ?_
          refine VL.r (.inl rfl) rfl (by decide) (yr_assign (u := .int .i64 0) rfl rfl) ?_
          refine VL.nil ?_
          refine VE.then_wp ?_
          refine V.seq ?_
          refine V.seq ?_
          refine V.region ?_
          refine VL.r (.inl rfl) rfl (by decide) (yr_move rfl rfl) ?_
          refine VL.r (.inl rfl) rfl (by decide) (yr_fcmp (b := 0) rfl (.inr (.inr (.inr (.inr (.inl rfl))))) rfl rfl) ?_
          refine VL.nil ?_
          refine VE.then_wp ?_
          refine V.cond rfl (fun h5 => ?_) (fun h5 => ?_)
          · skip
            refine V.seq ?_
            refine V.region ?_
            refine VL.r (.inl rfl) rfl (by decide) (yr_move rfl rfl) ?_
            refine VL.r (.inl rfl) rfl (by decide) (yr_nilCheck rfl rfl) ?_
            refine VL.r (.inl rfl) rfl (by decide) (yr_fieldAddr rfl Try.underlying30 rfl rfl sz28_PkS (by decide) rfl) ?_
            refine VL.q (.inl rfl) rfl (by decide) (yq_load rfl fb28_PkS rfl (by first | exact Sees.root (by assumption) | exact Sees.own (by repeat (first | exact List.mem_cons_self | exact List.mem_append_left _ (by assumption) | apply List.mem_cons_of_mem | apply List.mem_append_right)) | exact Sees.root (hR _ (by omega)) | exact Sees.own (RowsIn.mem (by repeat (first | exact RowsIn.here | exact RowsIn.last | apply RowsIn.there | apply RowsIn.thereS)) _ (by omega)) | exact Sees.own (WRowsIn.mem (by repeat (first | exact WRowsIn.here | exact WRowsIn.last | apply WRowsIn.there | apply WRowsIn.thereS)) _ (by omega))) rfl) ?_
            refine VL.r (.inl rfl) rfl (by decide) (yr_move rfl rfl) ?_
            refine VL.q (.inl rfl) rfl (by decide) (yq_idxN (k := i) rfl Try.underlying28 sz27_PkS rfl rfl (by first | exact Sees.root (by assumption) | exact Sees.own (by repeat (first | exact List.mem_cons_self | exact List.mem_append_left _ (by assumption) | apply List.mem_cons_of_mem | apply List.mem_append_right)) | exact Sees.root (hR _ (by omega)) | exact Sees.own (RowsIn.mem (by repeat (first | exact RowsIn.here | exact RowsIn.last | apply RowsIn.there | apply RowsIn.thereS)) _ (by omega)) | exact Sees.own (WRowsIn.mem (by repeat (first | exact WRowsIn.here | exact WRowsIn.last | apply WRowsIn.there | apply WRowsIn.thereS)) _ (by omega))) (by first | rfl | omega | (push_cast; rfl) | (push_cast; omega) | exact tmod_nat _ _) (by exact vl_length _) (by decide) (by omega)) ?_
            refine VL.q (.inl rfl) rfl (by decide) (yq_loadV rfl Try.underlying27 sz27_PkS rfl (by first | exact Sees.root (by assumption) | exact Sees.own (by repeat (first | exact List.mem_cons_self | exact List.mem_append_left _ (by assumption) | apply List.mem_cons_of_mem | apply List.mem_append_right)) | exact Sees.root (hR _ (by omega)) | exact Sees.own (RowsIn.mem (by repeat (first | exact RowsIn.here | exact RowsIn.last | apply RowsIn.there | apply RowsIn.thereS)) _ (by omega)) | exact Sees.own (WRowsIn.mem (by repeat (first | exact WRowsIn.here | exact WRowsIn.last | apply WRowsIn.there | apply WRowsIn.thereS)) _ (by omega))) (by omega)) ?_
            refine VL.r (.inl rfl) rfl (by decide) (yr_move rfl rfl) ?_
            refine VL.q (.inl rfl) rfl (by decide) (yq_callf rfl known127_PkS (.cons rfl (.cons rfl .nil)) (fun w hw => (c_part (j := j) (by omega)))) ?_
            refine VL.r (.inl rfl) rfl (by decide) (yr_fconv rfl Try.underlying23 Try.underlying56 (by decide) rfl (fover_up _)) ?_
            refine VL.r (.inl rfl) rfl (by decide) (yr_move rfl rfl) ?_
            refine VL.r (.inl rfl) rfl (by decide) (yr_fconv rfl Try.underlying23 Try.underlying56 (by decide) rfl (fover_up _)) ?_
            refine VL.r (.inl rfl) rfl (by decide) (yr_float rfl (.inr (.inr (.inr rfl))) rfl rfl) ?_
            refine VL.r (.inl rfl) rfl (by decide) (yr_assign rfl rfl) ?_
            refine VL.nil ?_
            refine VE.then_wp ?_
            refine V.region ?_
            refine VL.r (.inl rfl) rfl (by decide) (yr_move rfl rfl) ?_
            refine VL.r (.inl rfl) rfl (by decide) (yr_float (a := 4674736138332667904) rfl (.inr (.inr (.inl rfl))) rfl rfl) ?_
            refine VL.q (.inl rfl) rfl (by decide) (yq_ext rfl ext100_PkS (.cons rfl .nil) (fun vs w h => ext_round vs w h)) ?_
            refine VL.r (.inl rfl) rfl (by decide) (yr_toInt (i := qI (scU vs (vs.length * 3)) (part3 (vs.getD i z3) j)) rfl Try.underlying56 Try.underlying2 rfl (qI_isX hall (by assumption) (num_part (vs := vs) (i := i) (j := j) (by omega)) (by omega))) ?_
            refine VL.r (.inl rfl) rfl (by decide) (yr_assign rfl rfl) ?_
            refine VL.nil ?_
            refine VE.then_wp ?_
            refine V.region ?_
            refine VL.r (.inl rfl) rfl (by decide) (yr_move rfl rfl) ?_
            refine VL.r (.inl rfl) rfl (by decide) (yr_move rfl rfl) ?_
            refine VL.r (.inl rfl) rfl (by decide) (yr_bits rfl rfl rfl (.inl ⟨rfl, and255 _⟩)) ?_
            refine VL.r (.inl rfl) rfl (by decide) (yr_intConv (r := w8 _) rfl Try.underlying2 Try.underlying5 rfl (w8_255 _)) ?_
            refine VL.r (.inl rfl) rfl (by decide) (yr_move rfl rfl) ?_
            refine VL.r (.inl rfl) rfl (by decide) (yr_shr (b := 8) rfl rfl rfl rfl) ?_
            refine VL.r (.inl rfl) rfl (by decide) (yr_bits rfl rfl rfl (.inl ⟨rfl, and255 _⟩)) ?_
            refine VL.r (.inl rfl) rfl (by decide) (yr_intConv (r := w8 _) rfl Try.underlying2 Try.underlying5 rfl (w8_255 _)) ?_
            refine VL.new1 (.inl rfl) rfl (by decide) (yn_lit rfl Try.underlying50 elt5_PkS rfl (by decide) (.cons rfl (.cons rfl .nil)) (by first | (simp; done) | (simp [cn, cn1, cn0]; done)) rfl rfl rfl) ?_
            intro b103
            refine VL.c (.inl rfl) rfl (by decide) (yc_appendz 1 rfl rfl Try.underlying50 elt5_PkS rfl rfl (by repeat (first | exact UpdF.here | apply UpdF.there | apply UpdF.thereS)) (by first | exact Sees.root (by assumption) | exact Sees.own (by repeat (first | exact List.mem_cons_self | exact List.mem_append_left _ (by assumption) | apply List.mem_cons_of_mem | apply List.mem_append_right)) | exact Sees.root (hR _ (by omega)) | exact Sees.own (RowsIn.mem (by repeat (first | exact RowsIn.here | exact RowsIn.last | apply RowsIn.there | apply RowsIn.thereS)) _ (by omega)) | exact Sees.own (WRowsIn.mem (by repeat (first | exact WRowsIn.here | exact WRowsIn.last | apply WRowsIn.there | apply WRowsIn.thereS)) _ (by omega))) rfl (by first | rfl | (rw [bl_length, Nat.mul_one]) | (simp only [List.length_append, bl_length, Nat.mul_one]; done) | (simp only [List.length_append, bl_length, Nat.mul_one]; rfl)) (by first | rfl | exact bl_length _) (by first | rfl | exact bl_scal _ | (rw [bl_append]; exact bl_scal _)) (by first | rfl | exact bl_scal _) (by first | omega | (rw [bd_len]; omega) | (have := topK_le (f := (f1, f2, f3)) (st := st) (s := (scU vs (vs.length * 3))) (wi := wi) (hi := hi) (de := de) (k := k) (by omega); omega)) (by first | omega | (rw [bd_len]; omega) | (have := topK_le (f := (f1, f2, f3)) (st := st) (s := (scU vs (vs.length * 3))) (wi := wi) (hi := hi) (de := de) (k := k) (by omega); omega))) ?_
            rintro ⟨a104, c104⟩
            refine VL.r (.inl rfl) rfl (by decide) (yr_assign rfl rfl) ?_
            refine VL.nil ?_
            refine VE.block_normal ?_
            refine VE.then_wp ?_
            refine V.region ?_
            refine VL.r (.inl rfl) rfl (by decide) (yr_move rfl rfl) ?_
            refine VL.r (.inl rfl) rfl (by decide) (yr_int rfl rfl rfl (.inl ⟨rfl, wrap_in (by omega)⟩)) ?_
            refine VL.r (.inl rfl) rfl (by decide) (yr_assign rfl rfl) ?_
            refine VL.nil ?_
            refine VE.round (j + 1, a104, c104) ?_ ?_ ?_ ?_ ?_
            · exact (.cons (congrArg (fun n => some (Value.slice _ n _)) (by rw [← Nat.add_assoc, bodyU, ← List.append_assoc, List.length_append (bs := [_, _])]; rfl)) (.cons rfl .nil))
            · exact (.cons rfl (.cons rfl (.cons rfl .nil)))
            · exact (fun w hw => by
                have h9 := hw.sub (List.sublist_cons_self _ _)
                dsimp only
                rw [← Nat.add_assoc, ← body_s (num_part (vs := vs) (i := i) (j := j) (by omega)) (q := _) (q2 := _) (by first | exact qz_y (by assumption) | exact qz_n (by assumption)) rfl]
                exact h9)
            · exact ⟨by omega, trivial⟩
            · (try dsimp only); omega
          · skip
            refine V.skip ?_
            refine VE.then_wp ?_
            refine V.region ?_
            refine VL.r (.inl rfl) rfl (by decide) (yr_move rfl rfl) ?_
            refine VL.r (.inl rfl) rfl (by decide) (yr_move rfl rfl) ?_
            refine VL.r (.inl rfl) rfl (by decide) (yr_bits rfl rfl rfl (.inl ⟨rfl, and255 _⟩)) ?_
            refine VL.r (.inl rfl) rfl (by decide) (yr_intConv (r := w8 _) rfl Try.underlying2 Try.underlying5 rfl (w8_255 _)) ?_
            refine VL.r (.inl rfl) rfl (by decide) (yr_move rfl rfl) ?_
            refine VL.r (.inl rfl) rfl (by decide) (yr_shr (b := 8) rfl rfl rfl rfl) ?_
            refine VL.r (.inl rfl) rfl (by decide) (yr_bits rfl rfl rfl (.inl ⟨rfl, and255 _⟩)) ?_
            refine VL.r (.inl rfl) rfl (by decide) (yr_intConv (r := w8 _) rfl Try.underlying2 Try.underlying5 rfl (w8_255 _)) ?_
            refine VL.new1 (.inl rfl) rfl (by decide) (yn_lit rfl Try.underlying50 elt5_PkS rfl (by decide) (.cons rfl (.cons rfl .nil)) (by first | (simp; done) | (simp [cn, cn1, cn0]; done)) rfl rfl rfl) ?_
            intro b103
            refine VL.c (.inl rfl) rfl (by decide) (yc_appendz 1 rfl rfl Try.underlying50 elt5_PkS rfl rfl (by repeat (first | exact UpdF.here | apply UpdF.there | apply UpdF.thereS)) (by first | exact Sees.root (by assumption) | exact Sees.own (by repeat (first | exact List.mem_cons_self | exact List.mem_append_left _ (by assumption) | apply List.mem_cons_of_mem | apply List.mem_append_right)) | exact Sees.root (hR _ (by omega)) | exact Sees.own (RowsIn.mem (by repeat (first | exact RowsIn.here | exact RowsIn.last | apply RowsIn.there | apply RowsIn.thereS)) _ (by omega)) | exact Sees.own (WRowsIn.mem (by repeat (first | exact WRowsIn.here | exact WRowsIn.last | apply WRowsIn.there | apply WRowsIn.thereS)) _ (by omega))) rfl (by first | rfl | (rw [bl_length, Nat.mul_one]) | (simp only [List.length_append, bl_length, Nat.mul_one]; done) | (simp only [List.length_append, bl_length, Nat.mul_one]; rfl)) (by first | rfl | exact bl_length _) (by first | rfl | exact bl_scal _ | (rw [bl_append]; exact bl_scal _)) (by first | rfl | exact bl_scal _) (by first | omega | (rw [bd_len]; omega) | (have := topK_le (f := (f1, f2, f3)) (st := st) (s := (scU vs (vs.length * 3))) (wi := wi) (hi := hi) (de := de) (k := k) (by omega); omega)) (by first | omega | (rw [bd_len]; omega) | (have := topK_le (f := (f1, f2, f3)) (st := st) (s := (scU vs (vs.length * 3))) (wi := wi) (hi := hi) (de := de) (k := k) (by omega); omega))) ?_
            rintro ⟨a104, c104⟩
            refine VL.r (.inl rfl) rfl (by decide) (yr_assign rfl rfl) ?_
            refine VL.nil ?_
            refine VE.block_normal ?_
            refine VE.then_wp ?_
            refine V.region ?_
            refine VL.r (.inl rfl) rfl (by decide) (yr_move rfl rfl) ?_
            refine VL.r (.inl rfl) rfl (by decide) (yr_int rfl rfl rfl (.inl ⟨rfl, wrap_in (by omega)⟩)) ?_
            refine VL.r (.inl rfl) rfl (by decide) (yr_assign rfl rfl) ?_
            refine VL.nil ?_
            refine VE.round (j + 1, a104, c104) ?_ ?_ ?_ ?_ ?_
            · exact (.cons (congrArg (fun n => some (Value.slice _ n _)) (by rw [← Nat.add_assoc, bodyU, ← List.append_assoc, List.length_append (bs := [_, _])]; rfl)) (.cons rfl .nil))
            · exact (.cons rfl (.cons rfl (.cons rfl .nil)))
            · exact (fun w hw => by
                have h9 := hw.sub (List.sublist_cons_self _ _)
                dsimp only
                rw [← Nat.add_assoc, ← body_s (num_part (vs := vs) (i := i) (j := j) (by omega)) (q := _) (q2 := _) (by first | exact qz_y (by assumption) | exact qz_n (by assumption)) rfl]
                exact h9)
            · exact ⟨by omega, trivial⟩
            · (try dsimp only); omega
        · skip
          replace h4 := ic_lss' h4
          refine V.exit ?_
          refine VE.then_exit ?_
          refine VE.then_exit ?_
          refine VE.block_here ?_
          refine VE.block_normal ?_
          refine VE.then_wp ?_
          refine V.region ?_
          refine VL.r (.inl rfl) rfl (by decide) (yr_move rfl rfl) ?_
          refine VL.r (.inl rfl) rfl (by decide) (yr_int rfl rfl rfl (.inl ⟨rfl, wrap_in (by omega)⟩)) ?_
          refine VL.r (.inl rfl) rfl (by decide) (yr_assign rfl rfl) ?_
          refine VL.nil ?_
          refine VE.round (i + 1, ar2, cr2) ?_ ?_ ?_ ?_ ?_
          · exact (.cons (congrArg (fun n => some (Value.slice _ n _)) (by rw [show (i + 1) * 3 = i * 3 + j by omega])) (.cons rfl .nil))
          · exact (.cons rfl (.cons rfl .nil))
          · exact (fun w hw => by dsimp only; rw [show (i + 1) * 3 = i * 3 + j by omega]; exact hw)
          · exact ⟨by omega, trivial⟩
          · (try dsimp only); omega
      · skip
        replace h3 := ic_lss' h3
        refine V.exit ?_
        refine VE.then_exit ?_
        refine VE.then_exit ?_
        refine VE.block_here ?_
        refine VE.then_wp ?_
        refine V.seq ?_
        refine V.region ?_
        refine VL.r (.inl rfl) rfl (by decide) (yr_move rfl rfl) ?_
        refine VL.q (.inl rfl) rfl (by decide) (yq_bts rfl Try.underlying50 Try.underlying5 Try.underlying9 rfl (by first | exact Sees.root (by assumption) | exact Sees.own (by repeat (first | exact List.mem_cons_self | exact List.mem_append_left _ (by assumption) | apply List.mem_cons_of_mem | apply List.mem_append_right)) | exact Sees.root (hR _ (by omega)) | exact Sees.own (RowsIn.mem (by repeat (first | exact RowsIn.here | exact RowsIn.last | apply RowsIn.there | apply RowsIn.thereS)) _ (by omega)) | exact Sees.own (WRowsIn.mem (by repeat (first | exact WRowsIn.here | exact WRowsIn.last | apply WRowsIn.there | apply WRowsIn.thereS)) _ (by omega))) rfl) ?_
        refine VL.r (.inl rfl) rfl (by decide) (yr_assign rfl rfl) ?_
        refine VL.r (.inl rfl) rfl (by decide) (yr_assign (u := .bool true) rfl rfl) ?_
        refine VL.nil ?_
        refine VE.then_wp ?_
        refine V.ret ?_
        refine ret2 rfl rfl rfl (by nofun) (by nofun) (fun w1 hw => ?_)
        first
          | (have h8 : allF vs (vs.length * 3) = false := by assumption
             exact ⟨by rw [h8]; rfl, hw.below⟩)
          | (obtain rfl : i = vs.length := by omega
             exact ⟨by rw [hall]; rfl, hw.below⟩)

end Go.Proofs.Ytnommdpgmoljcaa


namespace Go.Proofs.Ytnommdpgmoljcaa
open Go.RowKit
set_option linter.unusedVariables false
set_option linter.unusedSimpArgs false
set_option maxRecDepth 20000

theorem sz30_Pk : (Try.prog.info? 30).map (·.size) = some 8 := by kernel_rfl
theorem known57_Pk : Known Try.prog 57 := Known.mk' Try.func57 (by kernel_rfl)
theorem known58_Pk : Known Try.prog 58 := Known.mk' Try.func58 (by kernel_rfl)
theorem known68_Pk : Known Try.prog 68 := Known.mk' Try.func68 (by kernel_rfl)
theorem known93_Pk : Known Try.prog 93 := Known.mk' Try.func93 (by kernel_rfl)
attribute [local irreducible] fop fcmp fconv fneg fabs List.getD pkT pkOk allF

theorem c_implPM {w : World} {f1 f2 f3 st : Nat} {wi hi de : Int} {a : Option Addr} {c : Nat} {vs : List V3} (hA : Cl w a (vl vs)) (hX : Cans3 vs) (hf : Can3 (f1, f2, f3)) (hst : Can .f32 st) : Pure Try.prog 26 [.agg #[.float .f32 f1, .float .f32 f2, .float .f32 f3, .float .f32 st, .int .i64 wi, .int .i64 hi, .int .i64 de, .slice a vs.length c]] w (.tuple #[.string (pkT (f1, f2, f3) st wi hi de vs), .bool (pkOk (f1, f2, f3) st wi hi de vs)]) := by
  refine Pure.enter Try.func26 rfl Try.ntmps26 (Nat.le_of_ble_eq_true rfl) ?_
  refine V.seq ?_
  refine V.region ?_
  refine VL.new1 (.inl rfl) rfl (by decide) (yn_box rfl rfl (.inr ⟨rfl, rfl⟩)) ?_
  intro b1
  refine VL.r (.inl rfl) rfl (by decide) (yr_assign rfl rfl) ?_
  refine VL.r (.inl rfl) rfl (by decide) (yr_assign (u := .bool false) rfl rfl) ?_
  refine VL.nil ?_
  refine VE.then_wp ?_
  refine V.seq ?_
  refine V.seq ?_
  refine V.region ?_
  refine VL.q (.inl rfl) rfl (by decide) (yq_loadS rfl Try.underlying30 sz30_Pk rfl (by first | exact Sees.root (by assumption) | exact Sees.own (by repeat (first | exact List.mem_cons_self | exact List.mem_append_left _ (by assumption) | apply List.mem_cons_of_mem | apply List.mem_append_right)) | exact Sees.root (hR _ (by omega)) | exact Sees.own (RowsIn.mem (by repeat (first | exact RowsIn.here | exact RowsIn.last | apply RowsIn.there | apply RowsIn.thereS)) _ (by omega)) | exact Sees.own (WRowsIn.mem (by repeat (first | exact WRowsIn.here | exact WRowsIn.last | apply WRowsIn.there | apply WRowsIn.thereS)) _ (by omega))) rfl rfl rfl) ?_
  refine VL.q (.inl rfl) rfl (by decide) (yq_callf rfl known57_Pk (.cons rfl .nil) (fun w hw => c_implMesh)) ?_
  refine VL.r (.inl rfl) rfl (by decide) (yr_not rfl rfl) ?_
  refine VL.nil ?_
  refine VE.then_wp ?_
  refine V.cond rfl (fun h1 => ?_) (fun h1 => ?_)
  · skip
    replace h1 := bnot_t h1
    refine V.seq ?_
    refine V.region ?_
    refine VL.r (.inl rfl) rfl (by decide) (yr_assign rfl rfl) ?_
    refine VL.r (.inl rfl) rfl (by decide) (yr_assign (u := .bool false) rfl rfl) ?_
    refine VL.nil ?_
    refine VE.then_wp ?_
    refine V.ret ?_
    refine VE.then_ret ?_
    refine ret2 rfl rfl rfl (by nofun) (by nofun) (fun w1 hw => ?_)
    first
      | exact ⟨by rw [← e1, ← e2]; rfl, hw.below⟩
      | (have hs : pkOk (f1, f2, f3) st wi hi de vs = false := pk_no1 (by assumption)
         exact ⟨by rw [pkT_no hs, hs]; rfl, hw.below⟩)
  · skip
    replace h1 := bnot_f h1
    have hok : meshOk (f1, f2, f3) st wi hi de vs.length = true := h1
    have hvl : vs.length ≤ 1000 := by
      obtain ⟨W, H, D, _, _, _, _, _, hbd, hN⟩ := mesh_open hok
      omega
    obtain ⟨e1, e2⟩ := pk_val hok
    refine V.skip ?_
    refine VE.then_wp ?_
    refine V.seq ?_
    refine V.region ?_
    refine VL.q (.inl rfl) rfl (by decide) (yq_loadS rfl Try.underlying30 sz30_Pk rfl (by first | exact Sees.root (by assumption) | exact Sees.own (by repeat (first | exact List.mem_cons_self | exact List.mem_append_left _ (by assumption) | apply List.mem_cons_of_mem | apply List.mem_append_right)) | exact Sees.root (hR _ (by omega)) | exact Sees.own (RowsIn.mem (by repeat (first | exact RowsIn.here | exact RowsIn.last | apply RowsIn.there | apply RowsIn.thereS)) _ (by omega)) | exact Sees.own (WRowsIn.mem (by repeat (first | exact WRowsIn.here | exact WRowsIn.last | apply WRowsIn.there | apply WRowsIn.thereS)) _ (by omega))) rfl rfl rfl) ?_
    refine VL.q (.inl rfl) rfl (by decide) (yq_callf rfl known58_Pk (.cons rfl .nil) (fun w hw => (c_implPack (by first | exact Sees.root (by assumption) w hw | exact Sees.own (by repeat (first | exact List.mem_cons_self | exact List.mem_append_left _ (by assumption) | apply List.mem_cons_of_mem | apply List.mem_append_right)) w hw) hX hf hst hvl))) ?_
    refine VL.r (.inl rfl) rfl (by decide) (yr_extract rfl rfl rfl (by nofun)) ?_
    refine VL.r (.inl rfl) rfl (by decide) (yr_extract rfl rfl rfl (by nofun)) ?_
    refine VL.r (.inl rfl) rfl (by decide) (yr_assign rfl rfl) ?_
    refine VL.r (.inl rfl) rfl (by decide) (yr_assign rfl rfl) ?_
    refine VL.nil ?_
    refine VE.then_wp ?_
    refine V.ret ?_
    refine ret2 rfl rfl rfl (by nofun) (by nofun) (fun w1 hw => ?_)
    first
      | exact ⟨by rw [← e1, ← e2]; rfl, hw.below⟩
      | (have hs : pkOk (f1, f2, f3) st wi hi de vs = false := pk_no1 (by assumption)
         exact ⟨by rw [pkT_no hs, hs]; rfl, hw.below⟩)

theorem c_specPM {w : World} {f1 f2 f3 st : Nat} {wi hi de : Int} {a : Option Addr} {c : Nat} {vs : List V3} (hA : Cl w a (vl vs)) (hX : Cans3 vs) (hf : Can3 (f1, f2, f3)) (hst : Can .f32 st) : Pure Try.prog 60 [.agg #[.float .f32 f1, .float .f32 f2, .float .f32 f3, .float .f32 st, .int .i64 wi, .int .i64 hi, .int .i64 de, .slice a vs.length c]] w (.tuple #[.string (pkT (f1, f2, f3) st wi hi de vs), .bool (pkOk (f1, f2, f3) st wi hi de vs)]) := by
  refine Pure.enter Try.func60 rfl Try.ntmps60 (Nat.le_of_ble_eq_true rfl) ?_
  refine V.seq ?_
  refine V.region ?_
  refine VL.new1 (.inl rfl) rfl (by decide) (yn_box rfl rfl (.inr ⟨rfl, rfl⟩)) ?_
  intro b1
  refine VL.r (.inl rfl) rfl (by decide) (yr_assign rfl rfl) ?_
  refine VL.r (.inl rfl) rfl (by decide) (yr_assign (u := .bool false) rfl rfl) ?_
  refine VL.nil ?_
  refine VE.then_wp ?_
  refine V.seq ?_
  refine V.seq ?_
  refine V.region ?_
  refine VL.q (.inl rfl) rfl (by decide) (yq_callf rfl known68_Pk (.cons rfl .nil) (fun w hw => (c_l06Is (by first | exact Sees.root (by assumption) w hw | exact Sees.own (by repeat (first | exact List.mem_cons_self | exact List.mem_append_left _ (by assumption) | apply List.mem_cons_of_mem | apply List.mem_append_right)) w hw)))) ?_
  refine VL.r (.inl rfl) rfl (by decide) (yr_not rfl rfl) ?_
  refine VL.nil ?_
  refine VE.then_wp ?_
  refine V.cond rfl (fun h1 => ?_) (fun h1 => ?_)
  · skip
    replace h1 := bnot_t h1
    refine V.seq ?_
    refine V.region ?_
    refine VL.r (.inl rfl) rfl (by decide) (yr_assign rfl rfl) ?_
    refine VL.r (.inl rfl) rfl (by decide) (yr_assign (u := .bool false) rfl rfl) ?_
    refine VL.nil ?_
    refine VE.then_wp ?_
    refine V.ret ?_
    refine VE.then_ret ?_
    refine ret2 rfl rfl rfl (by nofun) (by nofun) (fun w1 hw => ?_)
    first
      | exact ⟨by rw [← e1, ← e2]; rfl, hw.below⟩
      | (have hs : pkOk (f1, f2, f3) st wi hi de vs = false := pk_no1 (by assumption)
         exact ⟨by rw [pkT_no hs, hs]; rfl, hw.below⟩)
  · skip
    replace h1 := bnot_f h1
    have hok : meshOk (f1, f2, f3) st wi hi de vs.length = true := h1
    have hvl : vs.length ≤ 1000 := by
      obtain ⟨W, H, D, _, _, _, _, _, hbd, hN⟩ := mesh_open hok
      omega
    obtain ⟨e1, e2⟩ := pk_val hok
    refine V.skip ?_
    refine VE.then_wp ?_
    refine V.seq ?_
    refine V.region ?_
    refine VL.q (.inl rfl) rfl (by decide) (yq_callf rfl known93_Pk (.cons rfl .nil) (fun w hw => (c_specPack (by first | exact Sees.root (by assumption) w hw | exact Sees.own (by repeat (first | exact List.mem_cons_self | exact List.mem_append_left _ (by assumption) | apply List.mem_cons_of_mem | apply List.mem_append_right)) w hw) (by first | exact Sees.root (by assumption) w hw | exact Sees.own (by repeat (first | exact List.mem_cons_self | exact List.mem_append_left _ (by assumption) | apply List.mem_cons_of_mem | apply List.mem_append_right)) w hw) hX hf hst hvl))) ?_
    refine VL.r (.inl rfl) rfl (by decide) (yr_extract rfl rfl rfl (by nofun)) ?_
    refine VL.r (.inl rfl) rfl (by decide) (yr_extract rfl rfl rfl (by nofun)) ?_
    refine VL.r (.inl rfl) rfl (by decide) (yr_assign rfl rfl) ?_
    refine VL.r (.inl rfl) rfl (by decide) (yr_assign rfl rfl) ?_
    refine VL.nil ?_
    refine VE.then_wp ?_
    refine V.ret ?_
    refine ret2 rfl rfl rfl (by nofun) (by nofun) (fun w1 hw => ?_)
    first
      | exact ⟨by rw [← e1, ← e2]; rfl, hw.below⟩
      | (have hs : pkOk (f1, f2, f3) st wi hi de vs = false := pk_no1 (by assumption)
         exact ⟨by rw [pkT_no hs, hs]; rfl, hw.below⟩)

end Go.Proofs.Ytnommdpgmoljcaa


namespace Go.Proofs.Ytnommdpgmoljcaa
open Go.RowKit

/-- the byte at a place -/
def sb (s : ByteArray) (i : Nat) : Nat := ((s.data[i]?).getD 0).toNat
theorem sb_lt (s : ByteArray) (i : Nat) : sb s i < 256 := UInt8.toNat_lt _
theorem extract_size {s : ByteArray} {l h : Nat} (h2 : h ≤ s.size) : (s.extract l h).size = h - l := by
  rw [ByteArray.size_extract, Nat.min_eq_left h2]
theorem sb_extract {s : ByteArray} {l h i : Nat} (h2 : h ≤ s.size) (hi : i < h - l) : sb (s.extract l h) i = sb s (l + i) := by
  have h3 : h ≤ s.data.size := h2
  unfold sb
  rw [ByteArray.data_extract, Array.getElem?_extract, if_pos (by omega)]
section
variable {P : Program} {w0 : World} {O : List Ent} {E : Env} {o : Oper}
theorem yr_strPart {t : TypeId} {x : Operand} {lo hi : Option Operand} {s : ByteArray} {l h : Nat} (ho : o.op = .slice t x lo hi none) (ht : P.underlying t = some .string) (hx : E.opd x = some (.string s)) (hlo : OptI E lo 0 l) (hhi : OptI E hi s.size h) (h1 : l ≤ h) (h2 : h ≤ s.size) : YR P E o (.string (s.extract l h)) := yr_of fun ρ w hE => by
  have e1 := cn_string (hE.get (x := x) (by simp [ho, Op.operands]) hx)
  have key : ∀ (y : Option Operand) (d v : Nat), OptI E y d v → (∀ q, y = some q → q ∈ o.op.operands) → (y = none ∧ v = d) ∨ ∃ q k, y = some q ∧ ρ q = .int k (v : Int) := by
    intro y d v hy hm
    rcases hy with h | ⟨q, k, rfl, hq⟩
    · exact .inl h
    · exact .inr ⟨q, k, rfl, cn_int (hE.get (hm q rfl) hq)⟩
  have k1 := key lo 0 l hlo (fun q hq => by subst hq; simp [ho, Op.operands])
  have k2 := key hi s.size h hhi (fun q hq => by subst hq; simp [ho, Op.operands])
  refine ⟨.string (s.extract l h), ?_, rfl⟩
  rcases k2 with ⟨rfl, rfl⟩ | ⟨q2, t2, rfl, e2⟩
  · rcases k1 with ⟨rfl, rfl⟩ | ⟨q1, t1, rfl, e3⟩
    · simp [execOp, ho, e1, Instr.sliceAt, Instr.slice, Instr.sliceBounds, run_underlying ht]
    · simp [execOp, ho, e1, e3, Instr.sliceAt, Instr.slice, Instr.sliceBounds, run_underlying ht, run_bound h1]
  · rcases k1 with ⟨rfl, rfl⟩ | ⟨q1, t1, rfl, e3⟩
    · simp [execOp, ho, e1, e2, Instr.sliceAt, Instr.slice, Instr.sliceBounds, run_underlying ht, run_bound h2]
    · simp [execOp, ho, e1, e2, e3, Instr.sliceAt, Instr.slice, Instr.sliceBounds, run_underlying ht, run_bound h1, run_bound h2]
theorem yr_strByte {t : TypeId} {x y : Operand} {s : ByteArray} {k : IntKind} {i : Nat} {j : Int} (ho : o.op = .index t x y) (ht : P.underlying t = some .string) (hx : E.opd x = some (.string s)) (hy : E.opd y = some (.int k j)) (hj : j = (i : Int)) (hi : i < s.size) : YR P E o (.int .u8 (sb s i : Int)) := yr_of fun ρ w hE => by
  subst hj
  have e1 := cn_string (hE.get (x := x) (by simp [ho, Op.operands]) hx)
  have e2 := cn_int (hE.get (x := y) (by simp [ho, Op.operands]) hy)
  refine ⟨.int .u8 (sb s i : Int), ?_, rfl⟩
  have hi' : i < s.data.size := hi
  have hb : (s[i]?).map (·.toNat) = some (sb s i) := by
    unfold sb
    rw [Array.getElem?_eq_getElem hi']
    rw [getElem?_pos s i hi]
    rfl
  cases hs : s[i]? with
  | none => rw [hs] at hb; cases hb
  | some b =>
    rw [hs] at hb
    simp only [Option.map_some, Option.some.injEq] at hb
    simp [execOp, ho, e1, e2, Instr.index, asIntOf, run_underlying ht, hs, hb]
end
/-! ### numbers of bytes -/
theorem or_shl {a b n : Nat} (h : a < 2 ^ n) : a ||| (b * 2 ^ n) = a + b * 2 ^ n := by
  rw [← Nat.shiftLeft_eq, Nat.or_comm, ← Nat.shiftLeft_add_eq_or_of_lt h, Nat.add_comm]
def rd2 (s : ByteArray) (p : Nat) : Nat := sb s p + sb s (p + 1) * 256
def rd4 (s : ByteArray) (p : Nat) : Nat := sb s p + sb s (p + 1) * 256 + sb s (p + 2) * 65536 + sb s (p + 3) * 16777216
theorem rd2_lt (s : ByteArray) (p : Nat) : rd2 s p < 65536 := by have := sb_lt s p; have := sb_lt s (p + 1); unfold rd2; omega
theorem rd4_lt (s : ByteArray) (p : Nat) : rd4 s p < 4294967296 := by have := sb_lt s p; have := sb_lt s (p + 1); have := sb_lt s (p + 2); have := sb_lt s (p + 3); unfold rd4; omega
theorem u32_nat {a : Nat} (h : a < 4294967296) : IntKind.u32.wrap (a : Int) = (a : Int) := by
  unfold IntKind.wrap
  simp [IntKind.signed, IntKind.bits]
  omega
theorem u16_nat {a : Nat} (h : a < 65536) : IntKind.u16.wrap (a : Int) = (a : Int) := by
  unfold IntKind.wrap
  simp [IntKind.signed, IntKind.bits]
  omega
theorem i64_nat {a : Nat} (h : a < 9223372036854775808) : IntKind.i64.wrap (a : Int) = (a : Int) := wrap_in (by omega)
theorem mod_nat {a m : Nat} (h : a < m) : ((a : Int) % (m : Int)).toNat = a := by
  have : (a : Int) % (m : Int) = a := Int.emod_eq_of_lt (by omega) (by omega)
  rw [this]; rfl
theorem or_32 {a b n r : Nat} (h : a < 2 ^ n) (hr : a + b * 2 ^ n = r) (h2 : r < 4294967296) : IntKind.u32.wrap ((((a : Int) % 2 ^ IntKind.u32.bits).toNat ||| (((b * 2 ^ n : Nat) : Int) % 2 ^ IntKind.u32.bits).toNat : Nat) : Int) = (r : Int) := by
  have e : (2 : Int) ^ IntKind.u32.bits = ((4294967296 : Nat) : Int) := by decide
  rw [e, mod_nat (by omega), mod_nat (by omega), or_shl h, hr, u32_nat h2]
theorem or_16 {a b n r : Nat} (h : a < 2 ^ n) (hr : a + b * 2 ^ n = r) (h2 : r < 65536) : IntKind.u16.wrap ((((a : Int) % 2 ^ IntKind.u16.bits).toNat ||| (((b * 2 ^ n : Nat) : Int) % 2 ^ IntKind.u16.bits).toNat : Nat) : Int) = (r : Int) := by
  have e : (2 : Int) ^ IntKind.u16.bits = ((65536 : Nat) : Int) := by decide
  rw [e, mod_nat (by omega), mod_nat (by omega), or_shl h, hr, u16_nat h2]
theorem or_64 {a b n r : Nat} (h : a < 2 ^ n) (hr : a + b * 2 ^ n = r) (h2 : r < 9223372036854775808) : IntKind.i64.wrap ((((a : Int) % 2 ^ IntKind.i64.bits).toNat ||| (((b * 2 ^ n : Nat) : Int) % 2 ^ IntKind.i64.bits).toNat : Nat) : Int) = (r : Int) := by
  have e : (2 : Int) ^ IntKind.i64.bits = ((18446744073709551616 : Nat) : Int) := by decide
  rw [e, mod_nat (by omega), mod_nat (by omega), or_shl h, hr, i64_nat h2]
theorem shl_32 {a b : Nat} (hb : b ≤ 32) (h : a * 2 ^ b < 4294967296) : IntKind.u32.wrap ((a : Int) * 2 ^ (min b IntKind.u32.bits)) = ((a * 2 ^ b : Nat) : Int) := by
  rw [show IntKind.u32.bits = 32 from rfl, Nat.min_eq_left hb]
  have e : (a : Int) * 2 ^ b = ((a * 2 ^ b : Nat) : Int) := by push_cast; rfl
  rw [e, u32_nat h]
theorem shl_16 {a b : Nat} (hb : b ≤ 16) (h : a * 2 ^ b < 65536) : IntKind.u16.wrap ((a : Int) * 2 ^ (min b IntKind.u16.bits)) = ((a * 2 ^ b : Nat) : Int) := by
  rw [show IntKind.u16.bits = 16 from rfl, Nat.min_eq_left hb]
  have e : (a : Int) * 2 ^ b = ((a * 2 ^ b : Nat) : Int) := by push_cast; rfl
  rw [e, u16_nat h]
theorem shl_64 {a b : Nat} (hb : b ≤ 64) (h : a * 2 ^ b < 9223372036854775808) : IntKind.i64.wrap ((a : Int) * 2 ^ (min b IntKind.i64.bits)) = ((a * 2 ^ b : Nat) : Int) := by
  rw [show IntKind.i64.bits = 64 from rfl, Nat.min_eq_left hb]
  have e : (a : Int) * 2 ^ b = ((a * 2 ^ b : Nat) : Int) := by push_cast; rfl
  rw [e, i64_nat h]
theorem rd4_part {s : ByteArray} {p : Nat} (h : p + 4 ≤ s.size) : rd4 (s.extract p (p + 4)) 0 = rd4 s p := by
  unfold rd4
  rw [sb_extract h (by omega), sb_extract h (by omega), sb_extract h (by omega), sb_extract h (by omega)]
  rfl
end Go.Proofs.Ytnommdpgmoljcaa


namespace Go.Proofs.Ytnommdpgmoljcaa
open Go.RowKit
set_option linter.unusedVariables false
set_option linter.unusedSimpArgs false
set_option maxRecDepth 20000

theorem mixed_UnA : Try.prog.follows .mixedOrders = true := by kernel_rfl
theorem ext94_UnA : ExtF Try.prog 94 Extern.MathFloatBits.float32frombits := ⟨_, Try.func94, by kernel_rfl, by kernel_rfl, by kernel_rfl, by kernel_rfl⟩
theorem known124_UnA : Known Try.prog 124 := Known.mk' Try.func124 (by kernel_rfl)
attribute [local irreducible] fop fcmp fconv fneg fabs List.getD sb

theorem c_readNum {w : World} {s : ByteArray} (hs : s.size = 4) : Pure Try.prog 55 [.string s] w (.float .f32 (cb .f32 (rd4 s 0))) := by
  refine Pure.enter Try.func55 rfl Try.ntmps55 (Nat.le_of_ble_eq_true rfl) ?_
  have hb0 := sb_lt s 0
  have hb1 := sb_lt s 1
  have hb2 := sb_lt s 2
  have hb3 := sb_lt s 3
  refine V.seq ?_
  refine V.region ?_
  refine VL.r (.inl rfl) rfl (by decide) (yr_assign (u := .float .f32 0) rfl rfl) ?_
  refine VL.nil ?_
  refine VE.then_wp ?_
  refine V.seq ?_
  refine Dr.V.drawR [(0, 5), (1, 5), (2, 5), (3, 5), (4, 5), (5, 5), (6, 5), (7, 5), (8, 5), (9, 5), (10, 5), (11, 5), (12, 5), (13, 5), (14, 5), (15, 5), (16, 5), (17, 5), (18, 5), (19, 5)] [] [] _ mixed_UnA (by kernel_rfl) (fun w hw => hw) ?_
  refine Dr.SW.r rfl (.inl rfl) rfl (by decide) (yr_move rfl rfl) ?_
  refine Dr.SW.r rfl (.inl rfl) rfl (by decide) (yr_strByte (i := 0) rfl Try.underlying9 rfl rfl (by first | rfl | omega | (push_cast; rfl) | (push_cast; omega)) (by omega)) ?_
  refine Dr.SW.r rfl (.inl rfl) rfl (by decide) (yr_intConv (r := (sb s (0) : Int)) rfl Try.underlying5 Try.underlying117 rfl (u32_nat (by have := sb_lt s (0); omega))) ?_
  refine Dr.SW.r rfl (.inl rfl) rfl (by decide) (yr_move rfl rfl) ?_
  refine Dr.SW.r rfl (.inl rfl) rfl (by decide) (yr_strByte (i := 1) rfl Try.underlying9 rfl rfl (by first | rfl | omega | (push_cast; rfl) | (push_cast; omega)) (by omega)) ?_
  refine Dr.SW.r rfl (.inl rfl) rfl (by decide) (yr_intConv (r := (sb s (1) : Int)) rfl Try.underlying5 Try.underlying117 rfl (u32_nat (by have := sb_lt s (1); omega))) ?_
  refine Dr.SW.r rfl (.inl rfl) rfl (by decide) (yr_shl (b := 8) (r := ((sb s (1) * 2 ^ 8 : Nat) : Int)) rfl rfl rfl (shl_32 (by decide) (by omega))) ?_
  refine Dr.SW.r rfl (.inl rfl) rfl (by decide) (yr_bits (r := ((sb s (0) + sb s (1) * 256 : Nat) : Int)) rfl rfl rfl (.inr ⟨rfl, or_32 (n := 8) (by omega) (by omega) (by omega)⟩)) ?_
  refine Dr.SW.r rfl (.inl rfl) rfl (by decide) (yr_move rfl rfl) ?_
  refine Dr.SW.r rfl (.inl rfl) rfl (by decide) (yr_strByte (i := 2) rfl Try.underlying9 rfl rfl (by first | rfl | omega | (push_cast; rfl) | (push_cast; omega)) (by omega)) ?_
  refine Dr.SW.r rfl (.inl rfl) rfl (by decide) (yr_intConv (r := (sb s (2) : Int)) rfl Try.underlying5 Try.underlying117 rfl (u32_nat (by have := sb_lt s (2); omega))) ?_
  refine Dr.SW.r rfl (.inl rfl) rfl (by decide) (yr_shl (b := 16) (r := ((sb s (2) * 2 ^ 16 : Nat) : Int)) rfl rfl rfl (shl_32 (by decide) (by omega))) ?_
  refine Dr.SW.r rfl (.inl rfl) rfl (by decide) (yr_bits (r := ((sb s (0) + sb s (1) * 256 + sb s (2) * 65536 : Nat) : Int)) rfl rfl rfl (.inr ⟨rfl, or_32 (n := 16) (by omega) (by omega) (by omega)⟩)) ?_
  refine Dr.SW.r rfl (.inl rfl) rfl (by decide) (yr_move rfl rfl) ?_
  refine Dr.SW.r rfl (.inl rfl) rfl (by decide) (yr_strByte (i := 3) rfl Try.underlying9 rfl rfl (by first | rfl | omega | (push_cast; rfl) | (push_cast; omega)) (by omega)) ?_
  refine Dr.SW.r rfl (.inl rfl) rfl (by decide) (yr_intConv (r := (sb s (3) : Int)) rfl Try.underlying5 Try.underlying117 rfl (u32_nat (by have := sb_lt s (3); omega))) ?_
  refine Dr.SW.r rfl (.inl rfl) rfl (by decide) (yr_shl (b := 24) (r := ((sb s (3) * 2 ^ 24 : Nat) : Int)) rfl rfl rfl (shl_32 (by decide) (by omega))) ?_
  refine Dr.SW.r rfl (.inl rfl) rfl (by decide) (yr_bits (r := ((sb s (0) + sb s (1) * 256 + sb s (2) * 65536 + sb s (3) * 16777216 : Nat) : Int)) rfl rfl rfl (.inr ⟨rfl, or_32 (n := 24) (by omega) (by omega) (by omega)⟩)) ?_
  refine Dr.SW.p rfl (.inl rfl) rfl (by decide) (yq_ext rfl ext94_UnA (.cons rfl .nil) (fun vs w h => ext_from32 vs w h)) ?_
  refine Dr.SW.r rfl (.inl rfl) rfl (by decide) (yr_assign rfl rfl) ?_
  refine Dr.SW.done ?_
  refine Dr.eqO (by simp only [List.append_nil, List.append_assoc, List.cons_append, List.nil_append] <;> rfl) ?_
  refine VE.then_wp ?_
  refine V.ret ?_
  refine ret1 rfl rfl (fun w1 hw => ?_)
  exact ⟨rfl, hw.below⟩

theorem c_l01From {w : World} {x : Nat} (hx : x < 4294967296) : Pure Try.prog 124 [.int .i64 (x : Int)] w (.float .f32 (cb .f32 x)) := by
  refine Pure.enter Try.func124 rfl Try.ntmps124 (Nat.le_of_ble_eq_true rfl) ?_
  refine V.seq ?_
  refine V.region ?_
  refine VL.r (.inl rfl) rfl (by decide) (yr_assign (u := .float .f32 0) rfl rfl) ?_
  refine VL.nil ?_
  refine VE.then_wp ?_
  refine V.seq ?_
  refine V.region ?_
  refine VL.r (.inl rfl) rfl (by decide) (yr_move rfl rfl) ?_
  refine VL.r (.inl rfl) rfl (by decide) (yr_intConv (r := (x : Int)) rfl Try.underlying2 Try.underlying117 rfl (u32_nat hx)) ?_
  refine VL.q (.inl rfl) rfl (by decide) (yq_ext rfl ext94_UnA (.cons rfl .nil) (fun vs w h => ext_from32 vs w h)) ?_
  refine VL.r (.inl rfl) rfl (by decide) (yr_assign rfl rfl) ?_
  refine VL.nil ?_
  refine VE.then_wp ?_
  refine V.ret ?_
  refine ret1 rfl rfl (fun w1 hw => ?_)
  exact ⟨rfl, hw.below⟩

theorem c_l06Num {w : World} {s : ByteArray} {p : Nat} (hs : p + 4 ≤ s.size) (hp : p ≤ 100000) : Pure Try.prog 90 [.string s, .int .i64 (p : Int)] w (.float .f32 (cb .f32 (rd4 s p))) := by
  refine Pure.enter Try.func90 rfl Try.ntmps90 (Nat.le_of_ble_eq_true rfl) ?_
  have hb0 := sb_lt s p
  have hb1 := sb_lt s (p + 1)
  have hb2 := sb_lt s (p + 2)
  have hb3 := sb_lt s (p + 3)
  refine V.seq ?_
  refine V.region ?_
  refine VL.r (.inl rfl) rfl (by decide) (yr_assign (u := .float .f32 0) rfl rfl) ?_
  refine VL.nil ?_
  refine VE.then_wp ?_
  refine V.seq ?_
  refine Dr.V.drawR [(0, 5), (1, 5), (2, 5), (3, 5), (4, 5), (5, 5), (6, 5), (7, 5), (8, 5), (9, 5), (10, 5), (11, 5), (12, 5), (13, 5), (14, 5), (15, 5), (16, 5), (17, 5), (18, 5), (19, 5), (20, 5), (21, 5), (22, 5), (23, 5), (24, 5), (25, 5), (26, 5)] [] [] _ mixed_UnA (by kernel_rfl) (fun w hw => hw) ?_
  refine Dr.SW.r rfl (.inl rfl) rfl (by decide) (yr_move rfl rfl) ?_
  refine Dr.SW.r rfl (.inl rfl) rfl (by decide) (yr_move rfl rfl) ?_
  refine Dr.SW.r rfl (.inl rfl) rfl (by decide) (yr_strByte (i := p) rfl Try.underlying9 rfl rfl (by first | rfl | omega | (push_cast; rfl) | (push_cast; omega)) (by omega)) ?_
  refine Dr.SW.r rfl (.inl rfl) rfl (by decide) (yr_intConv (r := (sb s (p) : Int)) rfl Try.underlying5 Try.underlying2 rfl (i64_nat (by have := sb_lt s (p); omega))) ?_
  refine Dr.SW.r rfl (.inl rfl) rfl (by decide) (yr_move rfl rfl) ?_
  refine Dr.SW.r rfl (.inl rfl) rfl (by decide) (yr_move rfl rfl) ?_
  refine Dr.SW.r rfl (.inl rfl) rfl (by decide) (yr_int rfl rfl rfl (.inl ⟨rfl, wrap_in (by omega)⟩)) ?_
  refine Dr.SW.r rfl (.inl rfl) rfl (by decide) (yr_strByte (i := (p + 1)) rfl Try.underlying9 rfl rfl (by first | rfl | omega | (push_cast; rfl) | (push_cast; omega)) (by omega)) ?_
  refine Dr.SW.r rfl (.inl rfl) rfl (by decide) (yr_intConv (r := (sb s (p + 1) : Int)) rfl Try.underlying5 Try.underlying2 rfl (i64_nat (by have := sb_lt s (p + 1); omega))) ?_
  refine Dr.SW.r rfl (.inl rfl) rfl (by decide) (yr_shl (b := 8) (r := ((sb s (p + 1) * 2 ^ 8 : Nat) : Int)) rfl rfl rfl (shl_64 (by decide) (by omega))) ?_
  refine Dr.SW.r rfl (.inl rfl) rfl (by decide) (yr_bits (r := ((sb s (p) + sb s (p + 1) * 256 : Nat) : Int)) rfl rfl rfl (.inr ⟨rfl, or_64 (n := 8) (by omega) (by omega) (by omega)⟩)) ?_
  refine Dr.SW.r rfl (.inl rfl) rfl (by decide) (yr_move rfl rfl) ?_
  refine Dr.SW.r rfl (.inl rfl) rfl (by decide) (yr_move rfl rfl) ?_
  refine Dr.SW.r rfl (.inl rfl) rfl (by decide) (yr_int rfl rfl rfl (.inl ⟨rfl, wrap_in (by omega)⟩)) ?_
  refine Dr.SW.r rfl (.inl rfl) rfl (by decide) (yr_strByte (i := (p + 2)) rfl Try.underlying9 rfl rfl (by first | rfl | omega | (push_cast; rfl) | (push_cast; omega)) (by omega)) ?_
  refine Dr.SW.r rfl (.inl rfl) rfl (by decide) (yr_intConv (r := (sb s (p + 2) : Int)) rfl Try.underlying5 Try.underlying2 rfl (i64_nat (by have := sb_lt s (p + 2); omega))) ?_
  refine Dr.SW.r rfl (.inl rfl) rfl (by decide) (yr_shl (b := 16) (r := ((sb s (p + 2) * 2 ^ 16 : Nat) : Int)) rfl rfl rfl (shl_64 (by decide) (by omega))) ?_
  refine Dr.SW.r rfl (.inl rfl) rfl (by decide) (yr_bits (r := ((sb s (p) + sb s (p + 1) * 256 + sb s (p + 2) * 65536 : Nat) : Int)) rfl rfl rfl (.inr ⟨rfl, or_64 (n := 16) (by omega) (by omega) (by omega)⟩)) ?_
  refine Dr.SW.r rfl (.inl rfl) rfl (by decide) (yr_move rfl rfl) ?_
  refine Dr.SW.r rfl (.inl rfl) rfl (by decide) (yr_move rfl rfl) ?_
  refine Dr.SW.r rfl (.inl rfl) rfl (by decide) (yr_int rfl rfl rfl (.inl ⟨rfl, wrap_in (by omega)⟩)) ?_
  refine Dr.SW.r rfl (.inl rfl) rfl (by decide) (yr_strByte (i := (p + 3)) rfl Try.underlying9 rfl rfl (by first | rfl | omega | (push_cast; rfl) | (push_cast; omega)) (by omega)) ?_
  refine Dr.SW.r rfl (.inl rfl) rfl (by decide) (yr_intConv (r := (sb s (p + 3) : Int)) rfl Try.underlying5 Try.underlying2 rfl (i64_nat (by have := sb_lt s (p + 3); omega))) ?_
  refine Dr.SW.r rfl (.inl rfl) rfl (by decide) (yr_shl (b := 24) (r := ((sb s (p + 3) * 2 ^ 24 : Nat) : Int)) rfl rfl rfl (shl_64 (by decide) (by omega))) ?_
  refine Dr.SW.r rfl (.inl rfl) rfl (by decide) (yr_bits (r := ((sb s (p) + sb s (p + 1) * 256 + sb s (p + 2) * 65536 + sb s (p + 3) * 16777216 : Nat) : Int)) rfl rfl rfl (.inr ⟨rfl, or_64 (n := 24) (by omega) (by omega) (by omega)⟩)) ?_
  refine Dr.SW.p rfl (.inl rfl) rfl (by decide) (yq_callf rfl known124_UnA (.cons rfl .nil) (fun w hw => (c_l01From (x := sb s (p) + sb s (p + 1) * 256 + sb s (p + 2) * 65536 + sb s (p + 3) * 16777216) (by omega)))) ?_
  refine Dr.SW.r rfl (.inl rfl) rfl (by decide) (yr_assign rfl rfl) ?_
  refine Dr.SW.done ?_
  refine Dr.eqO (by simp only [List.append_nil, List.append_assoc, List.cons_append, List.nil_append] <;> rfl) ?_
  refine VE.then_wp ?_
  refine V.ret ?_
  refine ret1 rfl rfl (fun w1 hw => ?_)
  exact ⟨rfl, hw.below⟩

end Go.Proofs.Ytnommdpgmoljcaa


namespace Go.Proofs.Ytnommdpgmoljcaa
open Go.RowKit

theorem cut_even_le (s : Bool) {n d q : Nat} (h : n ≤ q * 2 ^ d) : Ieee.Toward.even.cut s n d ≤ q := by
  unfold Ieee.Toward.cut
  simp only [Nat.shiftLeft_eq, Nat.one_mul]
  by_cases hd : d ≤ n.log2 + 2
  · rw [Nat.min_eq_left hd]
    have hp := pow_pos' d
    have hlow : n / 2 ^ d ≤ q := Nat.div_le_of_le_mul (by rw [Nat.mul_comm]; exact h)
    rcases Nat.lt_or_eq_of_le hlow with hlt | heq
    · have : (decide (2 ^ d < 2 * (n % 2 ^ d)) || (2 ^ d == 2 * (n % 2 ^ d) && n / 2 ^ d % 2 == 1)).toNat ≤ 1 := Bool.toNat_le _
      omega
    · have hr : n % 2 ^ d = 0 := by
        have := Nat.div_add_mod n (2 ^ d)
        rw [heq, Nat.mul_comm] at this
        omega
      rw [heq, hr]
      have h1 : decide (2 ^ d < 2 * 0) = false := decide_eq_false (by omega)
      have h2 : (2 ^ d == 2 * 0) = false := by rw [beq_eq_false_iff_ne]; omega
      rw [h1, h2]
      simp
  · rw [Nat.min_eq_right (by omega)]
    have hlt : n < 2 ^ (n.log2 + 2) := Nat.lt_of_lt_of_le (lt_log2 n) (Nat.pow_le_pow_right (by decide) (by omega))
    have h2 : 2 * n < 2 ^ (n.log2 + 2) := by
      have := lt_log2 n
      rw [Nat.pow_succ]
      omega
    rw [Nat.div_eq_of_lt hlt, Nat.mod_eq_of_lt hlt]
    have h3 : decide (2 ^ (n.log2 + 2) < 2 * n) = false := decide_eq_false (by omega)
    have h4 : (2 ^ (n.log2 + 2) == 2 * n) = false := by rw [beq_eq_false_iff_ne]; omega
    rw [h3, h4]
    simp
/-- What is not greater than the number of a word is written as no greater word. -/
theorem nearest_le (f : Ieee.Format) (s : Bool) {m r a b : Nat} {e : Int} (he : e + a = f.leastPlace + b) (h : m * 2 ^ b ≤ units f r * 2 ^ a) : ∃ r', f.nearest s m e = f.word s r' ∧ r' ≤ r := by
  unfold Ieee.Format.nearest
  by_cases hm : m = 0
  · rw [if_pos hm]; exact ⟨0, rfl, Nat.zero_le _⟩
  rw [if_neg hm]
  refine ⟨_, rfl, Nat.le_trans (Nat.min_le_left _ _) ?_⟩
  have hmb : 0 < m * 2 ^ b := Nat.mul_pos (by omega) (pow_pos' b)
  have hu : units f r ≠ 0 := by
    intro h0
    rw [h0, Nat.zero_mul] at h
    omega
  have hl : m.log2 + b ≤ (units f r).log2 + a := by
    have := log2_mono h
    rwa [log2_mul_pow hm b, log2_mul_pow hu a] at this
  have hb : 0 < f.binade := pow_pos' _
  have hbe : f.binade = 2 ^ f.fractionBits := rfl
  have key : ∀ (q t : Nat), m * 2 ^ b ≤ q * 2 ^ t * 2 ^ a → Ieee.Toward.even.cut s (m <<< (e - (f.leastPlace + t)).toNat) ((f.leastPlace + t) - e).toNat ≤ q := by
    intro q t hqt
    rw [Nat.mul_assoc, ← Nat.pow_add] at hqt
    rcases Nat.le_total (t + a) b with hle | hle
    · have e1 : (e - (f.leastPlace + t)).toNat = b - (t + a) := by omega
      have e2 : ((f.leastPlace + t) - e).toNat = 0 := by omega
      rw [e1, e2, cut_zero, shl_eq]
      have : b = (b - (t + a)) + (t + a) := by omega
      rw [this, Nat.pow_add, ← Nat.mul_assoc] at hqt
      exact Nat.le_of_mul_le_mul_right hqt (pow_pos' _)
    · have e1 : (e - (f.leastPlace + t)).toNat = 0 := by omega
      have e2 : ((f.leastPlace + t) - e).toNat = t + a - b := by omega
      have : t + a = (t + a - b) + b := by omega
      rw [this, Nat.pow_add, ← Nat.mul_assoc] at hqt
      have hm' := Nat.le_of_mul_le_mul_right hqt (pow_pos' b)
      rw [e1, e2, shl_eq, Nat.pow_zero, Nat.mul_one]
      exact cut_even_le s hm'
  by_cases hrb : r < f.binade
  · have hur : units f r = r := by unfold units; rw [if_pos hrb]
    have hr0 : r ≠ 0 := by rw [← hur]; exact hu
    have hlg : (units f r).log2 < f.fractionBits := by
      rw [hur]
      exact (Nat.log2_lt hr0).2 hrb
    have hlast : max (e + (m.log2 : Int) - (f.fractionBits : Int)) f.leastPlace = f.leastPlace + ((0 : Nat) : Int) := by omega
    simp only [hlast]
    have hk := key r 0 (by rw [Nat.pow_zero, Nat.mul_one, ← hur]; exact h)
    have e0 : (f.leastPlace + ((0 : Nat) : Int) - f.leastPlace).toNat = 0 := by omega
    rw [e0, Nat.zero_mul, Nat.zero_add]
    exact hk
  · have hq1 : 1 ≤ r / f.binade := (Nat.le_div_iff_mul_le hb).2 (by omega)
    have hmod := Nat.mod_lt r hb
    have hur : units f r = (f.binade + r % f.binade) * 2 ^ (r / f.binade - 1) := by unfold units; rw [if_neg hrb]
    have hqne : f.binade + r % f.binade ≠ 0 := by omega
    have hlg : (units f r).log2 = f.fractionBits + (r / f.binade - 1) := by
      rw [hur, log2_mul_pow hqne]
      congr 1
      rw [Nat.log2_eq_iff hqne]
      rw [Nat.pow_succ, ← hbe]
      omega
    obtain ⟨t, ht⟩ : ∃ t : Nat, max (e + (m.log2 : Int) - (f.fractionBits : Int)) f.leastPlace = f.leastPlace + (t : Int) :=
      ⟨(max (e + (m.log2 : Int) - (f.fractionBits : Int)) f.leastPlace - f.leastPlace).toNat, by omega⟩
    have htT : t ≤ r / f.binade - 1 := by omega
    have hkl := kept_le s (m := m) (f := f.fractionBits) (place := e) (last := max (e + (m.log2 : Int) - (f.fractionBits : Int)) f.leastPlace) (Int.le_max_left _ _)
    simp only [ht] at hkl ⊢
    have e1 : (f.leastPlace + (t : Int) - f.leastPlace).toNat = t := by omega
    rw [e1]
    have e2 := Nat.div_add_mod r f.binade
    rw [Nat.mul_comm] at e2
    rcases Nat.lt_or_eq_of_le htT with hlt | heq
    · have h4 : 2 ^ (f.fractionBits + 1) = 2 * f.binade := by rw [Nat.pow_succ, Nat.mul_comm, hbe]
      rw [h4] at hkl
      have h5 : (t + 2) * f.binade ≤ r / f.binade * f.binade := Nat.mul_le_mul_right _ (by omega)
      rw [Nat.add_mul] at h5
      omega
    · have hk := key (f.binade + r % f.binade) t (by rw [heq, ← hur]; exact h)
      have h5 : (t + 1) * f.binade = r / f.binade * f.binade := by congr 1; omega
      rw [Nat.add_mul, Nat.one_mul] at h5
      omega
end Go.Proofs.Ytnommdpgmoljcaa


namespace Go.Proofs.Ytnommdpgmoljcaa
open Go.RowKit

/-- the double's word stands for a number of at most u units of 2 ^ -1074 -/
def ule (x u : Nat) : Prop := rng Ieee.double x < Ieee.double.infRung ∧ units Ieee.double (rng Ieee.double x) ≤ u
def r1 : Nat := 4607182418800017408
def u1 : Nat := units Ieee.double r1
theorem u1_is : u1 = 2 ^ 1074 := by unfold u1 units r1; decide +kernel
theorem u1_pow : ∃ c : Nat, c = 1074 ∧ u1 = 2 ^ c := ⟨1074, rfl, u1_is⟩
theorem units_mono (f : Ieee.Format) {r t : Nat} (h : r ≤ t) : units f r ≤ units f t := by
  have hb : 0 < f.binade := pow_pos' _
  rcases Nat.lt_or_ge t f.binade with ht | ht
  · have hr : r < f.binade := by omega
    unfold units
    rw [if_pos hr, if_pos ht]; exact h
  · obtain ⟨t1, t2⟩ := units_bounds f ht
    rcases Nat.lt_or_ge r f.binade with hr | hr
    · have hur : units f r = r := by unfold units; rw [if_pos hr]
      rw [hur]
      exact Nat.le_trans (Nat.le_of_lt hr) (Nat.le_trans (Nat.le_mul_of_pos_right _ (pow_pos' _)) t1)
    · obtain ⟨s1, s2⟩ := units_bounds f hr
      have hd : r / f.binade ≤ t / f.binade := Nat.div_le_div_right h
      rcases Nat.lt_or_eq_of_le hd with hlt | heq
      · have h3 : f.binade * 2 ^ (r / f.binade) ≤ f.binade * 2 ^ (t / f.binade - 1) := Nat.mul_le_mul_left _ (Nat.pow_le_pow_right (by decide) (by omega))
        omega
      · unfold units
        rw [if_neg (by omega), if_neg (by omega), heq]
        refine Nat.mul_le_mul_right _ ?_
        have e1 := Nat.div_add_mod r f.binade
        have e2 := Nat.div_add_mod t f.binade
        rw [heq] at e1
        omega
theorem ule_word (s : Bool) {r t : Nat} (h : r ≤ t) (ht : t < Ieee.double.infRung) : ule (Ieee.double.word s r) (units Ieee.double t) := by
  have hw := rng_word .f64 s (r := r) (by show r ≤ Ieee.double.infRung; omega)
  change rng Ieee.double (Ieee.double.word s r) = r ∧ _ at hw
  unfold ule
  rw [hw.1]
  exact ⟨by omega, units_mono _ h⟩
theorem quo_le1 {a b : Nat} {sa sb : Bool} {m n i j : Nat} (ha : Ieee.double.read a = .number sa m (-1074 + (i : Int))) (hb : Ieee.double.read b = .number sb n (-1074 + (j : Int))) (hn : n ≠ 0) (hl : i + m.log2 ≤ j + n.log2) (h : m * 2 ^ i ≤ n * 2 ^ j) : ule (fop .quo .f64 a b) u1 := by
  have e : fop .quo .f64 a b = ((((Ieee.double.read a).quotient 54 (Ieee.double.read b)).map Ieee.double.write).getD (qn .f64)) := rfl
  rw [e, ha, hb]
  simp only [Ieee.Datum.quotient, if_neg hn, Option.map_some, Option.getD_some]
  generalize hM : 54 + n.log2 - m.log2 = more
  have hij : i ≤ j + more := by omega
  obtain ⟨K, hK⟩ : ∃ K, j + more = i + K := ⟨j + more - i, by omega⟩
  have hD : m * 2 ^ more ≤ n * 2 ^ K := by
    have h2 : m * 2 ^ more * 2 ^ i ≤ n * 2 ^ K * 2 ^ i := by
      rw [Nat.mul_assoc, Nat.mul_comm (2 ^ more), ← Nat.mul_assoc, Nat.mul_assoc n, ← Nat.pow_add, Nat.add_comm K i, ← hK, Nat.pow_add, ← Nat.mul_assoc]
      exact Nat.mul_le_mul_right _ h
    exact Nat.le_of_mul_le_mul_right h2 (pow_pos' _)
  have hQ : 2 * ((m <<< more) / n) + ((m <<< more) % n != 0).toNat ≤ 2 ^ (K + 1) := by
    rw [shl_eq]
    generalize m * 2 ^ more = D at hD
    have hf : D / n ≤ 2 ^ K := Nat.div_le_of_le_mul hD
    rw [Nat.pow_succ]
    have hs : (D % n != 0).toNat ≤ 1 := Bool.toNat_le _
    rcases Nat.lt_or_eq_of_le hf with hlt | heq
    · omega
    · have e2 := Nat.div_add_mod D n
      rw [heq] at e2
      have h0 : D % n = 0 := by omega
      rw [heq, h0]
      simp
      omega
  obtain ⟨r', g1, g2⟩ := nearest_le Ieee.double (sa ^^ sb) (m := 2 * ((m <<< more) / n) + ((m <<< more) % n != 0).toNat) (r := r1) (a := j + more + 1) (b := i + 1074) (e := -1074 + (i : Int) - (-1074 + (j : Int)) - more - 1)
    (by have : Ieee.double.leastPlace = -1074 := by decide
        rw [this]; omega)
    (by
      change _ ≤ u1 * _
      obtain ⟨c, hc, hu⟩ := u1_pow
      rw [hu, hK, ← Nat.pow_add, ← hc]
      refine Nat.le_trans (Nat.mul_le_mul_right _ hQ) ?_
      rw [← Nat.pow_add]
      exact Nat.pow_le_pow_right (by decide) (by omega))
  show ule (Ieee.double.nearest _ _ _) u1
  rw [g1]
  exact ule_word _ g2 (by decide)
theorem mul_le1 {a b : Nat} (ha : rng Ieee.double a < Ieee.double.infRung) (hb : ule b u1) : ule (fop .mul .f64 a b) (units Ieee.double (rng Ieee.double a)) := by
  obtain ⟨hb1, hb2⟩ := hb
  obtain ⟨m, i, h1, h2⟩ := read_number Ieee.double ha
  obtain ⟨n, j, h3, h4⟩ := read_number Ieee.double hb1
  have hlp : Ieee.double.leastPlace = -1074 := by decide
  rw [hlp] at h1 h3
  have e : fop .mul .f64 a b = ((((Ieee.double.read a).product (Ieee.double.read b)).map Ieee.double.write).getD (qn .f64)) := rfl
  rw [e, h1, h3]
  simp only [Ieee.Datum.product, Option.map_some, Option.getD_some]
  obtain ⟨r', g1, g2⟩ := nearest_le Ieee.double (sgn Ieee.double a ^^ sgn Ieee.double b) (m := m * n) (r := rng Ieee.double a) (a := 1074) (b := i + j) (e := -1074 + (i : Int) + (-1074 + (j : Int)))
    (by rw [hlp]; omega)
    (by
      obtain ⟨c, hc, hu⟩ := u1_pow
      rw [← h2, Nat.pow_add, Nat.mul_mul_mul_comm, ← hc, ← hu]
      exact Nat.mul_le_mul_left _ (by rw [h4]; exact hb2))
  show ule (Ieee.double.nearest _ _ _) _
  rw [g1]
  exact ule_word _ g2 ha
end Go.Proofs.Ytnommdpgmoljcaa


namespace Go.Proofs.Ytnommdpgmoljcaa
open Go.RowKit

def rw5 : Nat := 4674736138332667904
theorem uw_is : units Ieee.double rw5 = 32767 * 2 ^ 1074 := by unfold units rw5; decide +kernel
theorem uw_pow : ∃ c : Nat, c = 1074 ∧ units Ieee.double rw5 = 32767 * 2 ^ c := ⟨1074, rfl, uw_is⟩
theorem ule_cut {y : Nat} (h : ule y (units Ieee.double rw5)) : ∃ (s : Bool) (m i : Nat), Ieee.double.read y = .number s m (-1074 + (i : Int)) ∧ ((1074 : Nat) ≤ i → m * 2 ^ (i - 1074) ≤ 32767) ∧ (i ≤ 1074 → m ≤ 32767 * 2 ^ (1074 - i)) := by
  obtain ⟨h1, h2⟩ := h
  obtain ⟨m, i, h3, h4⟩ := read_number Ieee.double h1
  have hlp : Ieee.double.leastPlace = -1074 := by decide
  rw [hlp] at h3
  obtain ⟨c, hc, hu⟩ := uw_pow
  rw [← h4, hu] at h2
  refine ⟨_, m, i, h3, fun hi => ?_, fun hi => ?_⟩
  · rw [← hc] at hi ⊢
    have e : i = (i - c) + c := by omega
    rw [e, Nat.pow_add, ← Nat.mul_assoc] at h2
    exact Nat.le_of_mul_le_mul_right h2 (pow_pos' c)
  · rw [← hc] at hi ⊢
    have e : c = (c - i) + i := by omega
    rw [e, Nat.pow_add, ← Nat.mul_assoc] at h2
    exact Nat.le_of_mul_le_mul_right h2 (pow_pos' i)
theorem round_le {y : Nat} (h : ule y (units Ieee.double rw5)) : ule (fround y) (units Ieee.double rw5) := by
  obtain ⟨s, m, i, h1, h2, h3⟩ := ule_cut h
  have h1' : FloatKind.f64.decode y = .number s m (-1074 + (i : Int)) := h1
  unfold fround
  rw [h1']
  simp only [Ieee.Datum.integral]
  have hc : Ieee.Toward.even.cut s (m <<< (-1074 + (i : Int)).toNat) (-(-1074 + (i : Int))).toNat ≤ 32767 := by
    rw [shl_eq]
    refine cut_even_le s ?_
    rcases Nat.le_total 1074 i with hi | hi
    · rw [show (-1074 + (i : Int)).toNat = i - 1074 by omega, show (-(-1074 + (i : Int))).toNat = 0 by omega, Nat.pow_zero, Nat.mul_one]
      exact h2 hi
    · rw [show (-1074 + (i : Int)).toNat = 0 by omega, show (-(-1074 + (i : Int))).toNat = 1074 - i by omega, Nat.pow_zero, Nat.mul_one]
      exact h3 hi
  obtain ⟨c, hc4, hu⟩ := uw_pow
  obtain ⟨r', g1, g2⟩ := nearest_le Ieee.double s (m := Ieee.Toward.even.cut s (m <<< (-1074 + (i : Int)).toNat) (-(-1074 + (i : Int))).toNat) (r := rw5) (a := 0) (b := c) (e := 0)
    (by have : Ieee.double.leastPlace = -1074 := by decide
        rw [this]; omega)
    (by rw [hu, Nat.pow_zero, Nat.mul_one]; exact Nat.mul_le_mul_right _ hc)
  show ule (Ieee.double.nearest _ _ _) _
  rw [g1]
  exact ule_word _ g2 (by decide)
theorem int_le {y : Nat} {q : Int} (h : ule y (units Ieee.double rw5)) (hq : floatToIntVal .f64 y .i64 = some q) : -32767 ≤ q ∧ q ≤ 32767 := by
  obtain ⟨s, m, i, h1, h2, h3⟩ := ule_cut h
  have h1' : FloatKind.f64.decode y = .number s m (-1074 + (i : Int)) := h1
  unfold floatToIntVal at hq
  rw [h1'] at hq
  simp only [Ieee.Datum.toInt, Ieee.Datum.integral] at hq
  have hz : ∀ n d, Ieee.Toward.zero.cut s n d ≤ n / 2 ^ d := by
    intro n d
    unfold Ieee.Toward.cut
    simp only [Bool.toNat_false, Nat.add_zero, Nat.shiftLeft_eq, Nat.one_mul]
    by_cases h : d ≤ n.log2 + 2
    · rw [Nat.min_eq_left h]; exact Nat.le_refl _
    · rw [Nat.min_eq_right (by omega)]
      have : n / 2 ^ (n.log2 + 2) = 0 := Nat.div_eq_of_lt (Nat.lt_of_lt_of_le Nat.lt_log2_self (Nat.pow_le_pow_right (by decide) (by omega)))
      rw [this]; exact Nat.zero_le _
  have hc : Ieee.Toward.zero.cut s (m <<< (-1074 + (i : Int)).toNat) (-(-1074 + (i : Int))).toNat ≤ 32767 := by
    refine Nat.le_trans (hz _ _) ?_
    rw [shl_eq]
    rcases Nat.le_total 1074 i with hi | hi
    · rw [show (-1074 + (i : Int)).toNat = i - 1074 by omega, show (-(-1074 + (i : Int))).toNat = 0 by omega, Nat.pow_zero, Nat.div_one]
      exact h2 hi
    · rw [show (-1074 + (i : Int)).toNat = 0 by omega, show (-(-1074 + (i : Int))).toNat = 1074 - i by omega, Nat.pow_zero, Nat.mul_one]
      exact Nat.div_le_of_le_mul (by rw [Nat.mul_comm]; exact h3 hi)
  generalize Ieee.Toward.zero.cut s (m <<< (-1074 + (i : Int)).toNat) (-(-1074 + (i : Int))).toNat = c at hq hc
  split at hq
  · injection hq with hq
    rw [← hq]
    unfold Ieee.signed
    rw [shl_eq, Nat.pow_zero, Nat.mul_one]
    split <;> omega
  · cases hq
/-- What is not greater than a single's number can be narrowed. -/
theorem fover_ule {x s : Nat} (hs : rng Ieee.single s < Ieee.single.infRung) (h : ule x (units Ieee.double (rng Ieee.double (up s)))) : fover .f64 .f32 x = false := by
  obtain ⟨h1, h2⟩ := h
  obtain ⟨_, k2, k3⟩ := up_number hs
  rw [k3] at h2
  obtain ⟨m, i, h3, h4⟩ := read_number Ieee.double h1
  have hlp : Ieee.double.leastPlace = -1074 := by decide
  rw [hlp] at h3
  have h3' : FloatKind.f64.decode x = .number (sgn Ieee.double x) m (-1074 + (i : Int)) := h3
  unfold fover
  rw [if_neg (by decide), h3']
  show (FloatKind.f32.decode (Ieee.single.nearest (sgn Ieee.double x) m (-1074 + (i : Int)))).isInfinity = false
  have hK : ∃ c : Nat, c = 925 ∧ upK = 2 ^ c := ⟨925, rfl, by unfold upK pow2; rfl⟩
  obtain ⟨c, hc, hu⟩ := hK
  obtain ⟨r', g1, g2⟩ := nearest_le Ieee.single (sgn Ieee.double x) (m := m) (r := rng Ieee.single s) (a := c) (b := i) (e := -1074 + (i : Int))
    (by have : Ieee.single.leastPlace = -149 := by decide
        rw [this]; omega)
    (by rw [h4, ← hu]; exact h2)
  rw [g1]
  have hi : Ieee.single.infRung = 2139095040 := by decide
  exact single_word_fin _ (by omega)
end Go.Proofs.Ytnommdpgmoljcaa


namespace Go.Proofs.Ytnommdpgmoljcaa
open Go.RowKit

theorem quo_ule {a b : Nat} (ha : ule a (units Ieee.double (rng Ieee.double b))) (hb : rng Ieee.double b < Ieee.double.infRung) (hb0 : rng Ieee.double b ≠ 0) : ule (fop .quo .f64 a b) u1 := by
  obtain ⟨g2, hle⟩ := ha
  obtain ⟨m, i, r1, r2⟩ := read_number Ieee.double g2
  obtain ⟨n, j, r3, r4⟩ := read_number Ieee.double hb
  have hlp : Ieee.double.leastPlace = -1074 := by decide
  rw [hlp] at r1 r3
  have hn0 : n * 2 ^ j ≠ 0 := by rw [r4]; exact units_pos _ hb0
  have hn : n ≠ 0 := fun h => hn0 (by rw [h, Nat.zero_mul])
  have hle' : m * 2 ^ i ≤ n * 2 ^ j := by rw [r2, r4]; exact hle
  have hlog : i + m.log2 ≤ j + n.log2 := by
    rcases Nat.eq_zero_or_pos m with h0 | h0
    · subst h0
      have : i = 0 := by
        have hu : units Ieee.double (rng Ieee.double a) = 0 := by rw [← r2, Nat.zero_mul]
        have hr0 := (units_zero Ieee.double).1 hu
        have hsm : Ieee.double.read a = .number (sgn Ieee.double a) 0 (-1074) := by
          unfold rng at hr0
          unfold Ieee.Format.read
          simp only [hr0]
          rw [if_pos (by decide), hlp]; rfl
        rw [hsm] at r1
        injection r1 with _ _ h3
        omega
      have : Nat.log2 0 = 0 := by decide
      omega
    · have := log2_mono hle'
      rw [log2_mul_pow (by omega), log2_mul_pow hn] at this
      omega
  exact quo_le1 r1 r3 hn hlog hle'
theorem rw5_fin : rng Ieee.double rw5 < Ieee.double.infRung ∧ rng Ieee.double rw5 ≠ 0 ∧ rng Ieee.double rw5 = rw5 := by decide
theorem qf_ule {s x : Nat} (hx : rng Ieee.single x < Ieee.single.infRung) (hs : rng Ieee.single s < Ieee.single.infRung) (hs0 : rng Ieee.single s ≠ 0) (hle : units Ieee.single (rng Ieee.single x) ≤ units Ieee.single (rng Ieee.single s)) : ule (qf s x) (units Ieee.double rw5) := by
  obtain ⟨_, g2, g3⟩ := up_number hx
  obtain ⟨_, k2, k3⟩ := up_number hs
  have h1 : ule (up x) (units Ieee.double (rng Ieee.double (up s))) := ⟨g2, by rw [g3, k3]; exact Nat.mul_le_mul_right _ hle⟩
  have h0 : rng Ieee.double (up s) ≠ 0 := by
    intro h
    have := (units_zero Ieee.double).2 h
    rw [k3] at this
    exact Nat.mul_ne_zero (units_pos _ hs0) (Nat.pos_iff_ne_zero.1 upK_pos) this
  have h2 := quo_ule h1 k2 h0
  have h3 := mul_le1 rw5_fin.1 h2
  rw [rw5_fin.2.2] at h3
  exact round_le h3
theorem qI_le {vs : List V3} {k j : Nat} (h : allF vs k = true) (hg : fcmp .gtr .f32 (scU vs k) 0 = true) (hj : j < k) : -32767 ≤ qI (scU vs k) (num vs j) ∧ qI (scU vs k) (num vs j) ≤ 32767 := by
  have hp := allF_pos h
  have hq := qI_is h hg hj
  rw [pos_gtr hp, decide_eq_true_eq] at hg
  obtain ⟨g1, g2⟩ := allF_le h j hj
  exact int_le (qf_ule (fin_rng g1) hp.1 hg g2) hq
theorem qz_le {vs : List V3} {k j : Nat} (h : allF vs k = true) (hj : j < k) : -32767 ≤ qz (scU vs k) (num vs j) ∧ qz (scU vs k) (num vs j) ≤ 32767 := by
  cases hg : fcmp .gtr .f32 (scU vs k) 0
  · rw [qz_n hg]; decide
  · rw [qz_y hg]; exact qI_le h hg hj
/-- A number that is unpacked, before it is narrowed. -/
def unX (s : Nat) (q : Int) : Nat := fop .mul .f64 (up s) (fop .quo .f64 (FloatKind.f64.nearest q) rw5)
theorem near_ule {q : Int} (h : -32767 ≤ q ∧ q ≤ 32767) : ule (FloatKind.f64.nearest q) (units Ieee.double rw5) := by
  obtain ⟨c, hc4, hu⟩ := uw_pow
  obtain ⟨r', g1, g2⟩ := nearest_le Ieee.double (decide (q < 0)) (m := q.natAbs) (r := rw5) (a := 0) (b := c) (e := 0)
    (by have : Ieee.double.leastPlace = -1074 := by decide
        rw [this]; omega)
    (by rw [hu, Nat.pow_zero, Nat.mul_one]; exact Nat.mul_le_mul_right _ (by omega))
  have e : FloatKind.f64.nearest q = Ieee.double.nearest (decide (q < 0)) q.natAbs 0 := rfl
  rw [e, g1]
  exact ule_word _ g2 (by decide)
theorem unX_ule {s : Nat} {q : Int} (hs : rng Ieee.single s < Ieee.single.infRung) (h : -32767 ≤ q ∧ q ≤ 32767) : ule (unX s q) (units Ieee.double (rng Ieee.double (up s))) := by
  obtain ⟨_, k2, _⟩ := up_number hs
  have h1 := near_ule h
  have h2 := quo_ule (a := FloatKind.f64.nearest q) (b := rw5) (by rw [rw5_fin.2.2]; exact h1) rw5_fin.1 rw5_fin.2.1
  exact mul_le1 k2 h2
theorem unX_over {s : Nat} {q : Int} (hs : rng Ieee.single s < Ieee.single.infRung) (h : -32767 ≤ q ∧ q ≤ 32767) : fover .f64 .f32 (unX s q) = false := fover_ule hs (unX_ule hs h)
end Go.Proofs.Ytnommdpgmoljcaa


namespace Go.Proofs.Ytnommdpgmoljcaa
open Go.RowKit

/-- What comes of narrowing the double a. -/
def Nar (a v : Nat) : Prop := Can .f32 v ∧ (fover .f64 .f32 a = false → v = fconv .f64 .f32 a)
section
variable {P : Program} {w0 : World} {O : List Ent} {E : Env} {o : Oper}
theorem yn_narrow {src dst : TypeId} {x : Operand} {a : Nat} (ho : o.op = .convert src dst x) (hs : P.underlying src = some (.float .f64)) (hd : P.underlying dst = some (.float .f32)) (hx : E.opd x = some (.float .f64 a)) :
    YN P w0 O E o (fun v : {v : Nat // Nar a v} => .float .f32 v.1) (fun _ => []) := by
  intro ρ w hE hw
  cases hv : fover .f64 .f32 a with
  | false =>
    refine (yr_fconv (P := P) ho hs hd (by decide) hx hv ρ w hE).mono fun v w' ⟨h1, h2⟩ => ?_
    exact ⟨⟨fconv .f64 .f32 a, ⟨cb_fconv _ _ _ (by decide), fconv_lt _ _ _ (by decide)⟩, fun _ => rfl⟩, h1, h2, (fun _ hf => by cases hf), List.Pairwise.nil⟩
  | true =>
    obtain ⟨a', h1, rfl⟩ := cn_float (hE.get (x := x) (by simp [ho, Op.operands]) hx)
    have hv' := hv
    rw [fover_cb] at hv
    unfold fover at hv
    rw [if_neg (by decide)] at hv
    cases hr : FloatKind.f64.decode a' with
    | nan sg f => rw [hr] at hv; cases hv
    | infinity sg => rw [hr] at hv; cases hv
    | number sg m e =>
      rw [hr] at hv
      simp only at hv
      have hrun : (execOp ρ o).run P w = .ok (.value (.float .f32 ((Question.floatToFloat a').cut (w.tape w.drawn (.floatToFloat a'))))) { w with drawn := w.drawn + 1 } := by
        simp [execOp, ho, convert, run_underlying hs, run_underlying hd, h1, Conv.floatToFloat, hr, hv, choose, Sem.run, Question.forced]
      rw [hrun]
      have hlt : (Question.floatToFloat a').cut (w.tape w.drawn (.floatToFloat a')) < 2 ^ 32 := Nat.mod_lt _ (by decide)
      exact ⟨⟨cb .f32 ((Question.floatToFloat a').cut (w.tape w.drawn (.floatToFloat a'))), can_cb .f32 hlt, fun h => by rw [hv'] at h; cases h⟩, by simp [cn, cn1, cn0], below_drew _ _, (fun _ hf => by cases hf), List.Pairwise.nil⟩
end
end Go.Proofs.Ytnommdpgmoljcaa


namespace Go.Proofs.Ytnommdpgmoljcaa
open Go.RowKit

theorem sb_stb {bs : List Int} {i : Nat} (h : i < bs.length) : sb (stb bs) i = (bs.getD i 0).toNat % 256 := by
  unfold sb stb
  simp [List.getD, h, UInt8.toNat_ofNat']
theorem w8_nat (q : Int) : (w8 q).toNat % 256 = (q % 256).toNat := by rw [w8_mod]; omega
theorem pkL_length {f : V3} {st : Nat} {wi hi de : Int} {vs : List V3} : (pkL f st wi hi de vs).length = 27 + vs.length * 3 * 2 := bd_len
theorem getD_app {xs ys : List Int} {i : Nat} (h : xs.length ≤ i) : (xs ++ ys).getD i 0 = ys.getD (i - xs.length) 0 := by
  simp only [List.getD, List.getElem?_append_right h]
theorem getD_app' {xs ys : List Int} {i : Nat} (h : i < xs.length) : (xs ++ ys).getD i 0 = xs.getD i 0 := by
  simp only [List.getD, List.getElem?_append_left h]
theorem body_get {vs : List V3} {s k : Nat} : ∀ n, k < n → (bodyU vs s n).getD (k * 2) 0 = w8 (qz s (num vs k)) ∧ (bodyU vs s n).getD (k * 2 + 1) 0 = w8 ((qz s (num vs k)).fdiv 256)
  | 0, h => by omega
  | n + 1, h => by
    rw [bodyU]
    rcases Nat.lt_or_eq_of_le (Nat.le_of_lt_succ h) with hk | rfl
    · rw [getD_app' (by rw [bodyU_length]; omega), getD_app' (by rw [bodyU_length]; omega)]
      exact body_get n hk
    · rw [getD_app (by rw [bodyU_length]; omega), getD_app (by rw [bodyU_length]; omega), bodyU_length, Nat.sub_self, show k * 2 + 1 - k * 2 = 1 by omega]
      exact ⟨rfl, rfl⟩
section
variable {f : V3} {st : Nat} {wi hi de : Int} {vs : List V3} {k : Nat}
theorem un_q (h : k < vs.length * 3) : rd2 (stb (pkL f st wi hi de vs)) (27 + k * 2) = (qz (scU vs (vs.length * 3)) (num vs k) % 65536).toNat := by
  have hl := pkL_length (f := f) (st := st) (wi := wi) (hi := hi) (de := de) (vs := vs)
  unfold rd2
  rw [sb_stb (by omega), sb_stb (by omega)]
  unfold pkL
  rw [getD_app (by rw [topL_length]; omega), getD_app (by rw [topL_length]; omega), topL_length, show 27 + k * 2 - 27 = k * 2 by omega, show 27 + k * 2 + 1 - 27 = k * 2 + 1 by omega]
  obtain ⟨g1, g2⟩ := body_get (vs := vs) (s := scU vs (vs.length * 3)) (k := k) _ h
  rw [g1, g2, w8_nat, w8_nat, Int.fdiv_eq_ediv_of_nonneg _ (by decide)]
  omega
theorem un_s : rd4 (stb (pkL f st wi hi de vs)) 23 = scU vs (vs.length * 3) := by
  have hl := pkL_length (f := f) (st := st) (wi := wi) (hi := hi) (de := de) (vs := vs)
  have hc : scU vs (vs.length * 3) < 2 ^ 32 := (can_scU _).lt
  unfold rd4
  rw [sb_stb (by omega), sb_stb (by omega), sb_stb (by omega), sb_stb (by omega)]
  unfold pkL
  rw [getD_app' (by rw [topL_length]; omega), getD_app' (by rw [topL_length]; omega), getD_app' (by rw [topL_length]; omega), getD_app' (by rw [topL_length]; omega)]
  generalize scU vs (vs.length * 3) = S at hc
  have e : ∀ j, j < 4 → (topL f st wi hi de S).getD (23 + j) 0 = (four S).getD j 0 := by
    intro j hj
    have : j = 0 ∨ j = 1 ∨ j = 2 ∨ j = 3 := by omega
    rcases this with rfl | rfl | rfl | rfl <;> rfl
  have e0 := e 0 (by decide)
  have e1 := e 1 (by decide)
  have e2 := e 2 (by decide)
  have e3 := e 3 (by decide)
  simp only [Nat.add_zero] at e0
  rw [e0, e1, e2, e3]
  show (w8 (S : Int)).toNat % 256 + (w8 ((S / 256 : Nat) : Int)).toNat % 256 * 256 + (w8 ((S / 65536 : Nat) : Int)).toNat % 256 * 65536 + (w8 ((S / 16777216 : Nat) : Int)).toNat % 256 * 16777216 = S
  rw [w8_nat, w8_nat, w8_nat, w8_nat]
  omega
end
/-- sixteen bits as a number with a sign -/
def q16 (n : Nat) : Int := if n ≤ 32767 then (n : Int) else (n : Int) - 65536
theorem q16_of {q : Int} (h : -32767 ≤ q ∧ q ≤ 32767) : q16 ((q % 65536).toNat) = q := by unfold q16; split <;> omega
theorem q16_wrap {n : Nat} (h : n < 65536) : IntKind.i16.wrap (n : Int) = q16 n := by
  unfold q16 IntKind.wrap
  simp [IntKind.signed, IntKind.bits]
  split <;> split <;> omega
end Go.Proofs.Ytnommdpgmoljcaa


namespace Go.Proofs.Ytnommdpgmoljcaa
open Go.RowKit

theorem read_zero {x : Nat} (h : rng Ieee.double x = 0) : Ieee.double.read x = .number (sgn Ieee.double x) 0 (-1074) := by
  have hlp : Ieee.double.leastPlace = -1074 := by decide
  unfold rng at h
  unfold Ieee.Format.read
  simp only [h]
  rw [if_pos (by decide), hlp]; rfl
theorem nearest_zero (s : Bool) (e : Int) : Ieee.double.nearest s 0 e = Ieee.double.word s 0 := by unfold Ieee.Format.nearest; rw [if_pos rfl]
theorem rng_word0 (s : Bool) : rng Ieee.double (Ieee.double.word s 0) = 0 ∧ sgn Ieee.double (Ieee.double.word s 0) = s := by cases s <;> decide
theorem quo_zero {a b : Nat} (ha : rng Ieee.double a = 0) (hb : rng Ieee.double b < Ieee.double.infRung) (hb0 : rng Ieee.double b ≠ 0) : rng Ieee.double (fop .quo .f64 a b) = 0 := by
  obtain ⟨n, j, r3, r4⟩ := read_number Ieee.double hb
  have hn : n ≠ 0 := by
    rintro rfl
    rw [Nat.zero_mul] at r4
    exact units_pos _ hb0 r4.symm
  have e : fop .quo .f64 a b = ((((Ieee.double.read a).quotient 54 (Ieee.double.read b)).map Ieee.double.write).getD (qn .f64)) := rfl
  rw [e, read_zero ha, r3]
  simp only [Ieee.Datum.quotient, if_neg hn, Option.map_some, Option.getD_some]
  have h0 : 2 * ((0 <<< (54 + n.log2 - Nat.log2 0)) / n) + ((0 <<< (54 + n.log2 - Nat.log2 0)) % n != 0).toNat = 0 := by simp
  rw [h0]
  show rng Ieee.double (Ieee.double.nearest _ 0 _) = 0
  rw [nearest_zero]; exact (rng_word0 _).1
theorem mul_zero64 {a b : Nat} (ha : rng Ieee.double a < Ieee.double.infRung) (hb : rng Ieee.double b = 0) : fop .mul .f64 a b = Ieee.double.word (sgn Ieee.double a ^^ sgn Ieee.double b) 0 := by
  obtain ⟨m, i, r1, r2⟩ := read_number Ieee.double ha
  have e : fop .mul .f64 a b = ((((Ieee.double.read a).product (Ieee.double.read b)).map Ieee.double.write).getD (qn .f64)) := rfl
  rw [e, read_zero hb, r1]
  simp only [Ieee.Datum.product, Option.map_some, Option.getD_some, Nat.mul_zero]
  exact nearest_zero _ _
theorem cut_zero0 (s : Bool) (a d : Nat) : Ieee.Toward.even.cut s (0 <<< a) d = 0 := by
  rw [shl_eq, Nat.zero_mul]
  exact Nat.le_zero.1 (cut_even_le s (Nat.zero_le _))
theorem round_zero {y : Nat} (h : rng Ieee.double y = 0) : rng Ieee.double (fround y) = 0 := by
  have h1 : FloatKind.f64.decode y = .number (sgn Ieee.double y) 0 (-1074) := read_zero h
  unfold fround
  rw [h1]
  simp only [Ieee.Datum.integral]
  rw [cut_zero0]
  show rng Ieee.double (Ieee.double.nearest (sgn Ieee.double y) 0 0) = 0
  rw [nearest_zero]; exact (rng_word0 _).1
theorem int_zero {y : Nat} (h : rng Ieee.double y = 0) : floatToIntVal .f64 y .i64 = some 0 := by
  have h1 : FloatKind.f64.decode y = .number (sgn Ieee.double y) 0 (-1074) := read_zero h
  unfold floatToIntVal
  rw [h1]
  generalize sgn Ieee.double y = s
  cases s <;> decide
theorem up_zero {x : Nat} (h : rng Ieee.single x = 0) : rng Ieee.double (up x) = 0 := by
  have hx : rng Ieee.single x < Ieee.single.infRung := by rw [h]; decide
  obtain ⟨_, _, k3⟩ := up_number hx
  rw [(units_zero Ieee.single).2 h, Nat.zero_mul] at k3
  exact (units_zero Ieee.double).1 k3
/-- Zero by the scale is zero. -/
theorem qI_zero {s x : Nat} (hx : rng Ieee.single x = 0) (hs : rng Ieee.single s < Ieee.single.infRung) (hs0 : rng Ieee.single s ≠ 0) : qI s x = 0 := by
  obtain ⟨_, k2, k3⟩ := up_number hs
  have h0 : rng Ieee.double (up s) ≠ 0 := by
    intro h
    have := (units_zero Ieee.double).2 h
    rw [k3] at this
    exact Nat.mul_ne_zero (units_pos _ hs0) (Nat.pos_iff_ne_zero.1 upK_pos) this
  have h1 := quo_zero (up_zero hx) k2 h0
  have h2 : rng Ieee.double (fop .mul .f64 rw5 (fop .quo .f64 (up x) (up s))) = 0 := by
    rw [mul_zero64 rw5_fin.1 h1]; exact (rng_word0 _).1
  have h3 := int_zero (round_zero h2)
  unfold qI
  rw [show qf s x = fround (fop .mul .f64 rw5 (fop .quo .f64 (up x) (up s))) from rfl, h3]
  rfl
/-- What is unpacked of nought is +0. -/
theorem unX_zero {s : Nat} (hs : pos s) : unX s 0 = 0 := by
  obtain ⟨k1, k2, _⟩ := up_number hs.1
  have h1 : fop .quo .f64 (FloatKind.f64.nearest 0) rw5 = 0 := by decide +kernel
  unfold unX
  rw [h1, mul_zero64 k2 (by decide), k1, hs.2]
  decide
end Go.Proofs.Ytnommdpgmoljcaa


namespace Go.Proofs.Ytnommdpgmoljcaa
open Go.RowKit

section
variable {f : V3} {st : Nat} {wi hi de : Int} {vs us : List V3} {k : Nat} {s : ByteArray}
theorem un_det (ha : allF vs (vs.length * 3) = true) (he : stb (pkL f st wi hi de vs) = s) (hk : k < vs.length * 3) :
    rd4 s 23 = scU vs (vs.length * 3) ∧ q16 (rd2 s (27 + k * 2)) = qz (rd4 s 23) (num vs k) ∧ fover .f64 .f32 (unX (rd4 s 23) (q16 (rd2 s (27 + k * 2)))) = false := by
  subst he
  have h1 := un_s (f := f) (st := st) (wi := wi) (hi := hi) (de := de) (vs := vs)
  have h2 := un_q (f := f) (st := st) (wi := wi) (hi := hi) (de := de) (vs := vs) hk
  have h3 := qz_le ha hk
  rw [h1, h2, q16_of h3]
  exact ⟨rfl, rfl, unX_over (allF_pos ha).1 h3⟩
theorem un_cb (he : stb (pkL f st wi hi de vs) = s) : cb .f32 (rd4 s 23) = rd4 s 23 := by
  subst he
  rw [un_s]; exact (can_scU _).1
/-- numbers alike but for the sign of a zero -/
def zn (a b : Nat) : Prop := a = b ∨ (rng Ieee.single a = 0 ∧ rng Ieee.single b = 0)
theorem fin_zero {a : Nat} (h : rng Ieee.single a = 0) : fin a = true := fin_of_rng (by rw [h]; decide)
theorem zn_fin {a b : Nat} (h : zn a b) : fin a = fin b := by
  rcases h with rfl | ⟨h1, h2⟩
  · rfl
  · rw [fin_zero h1, fin_zero h2]
theorem fabs_zero {a : Nat} (h : rng Ieee.single a = 0) : fabs .f32 a = 0 := by
  rw [fabs_fin (fin_zero h)]; exact h
theorem zn_fabs {a b : Nat} (h : zn a b) : fabs .f32 a = fabs .f32 b := by
  rcases h with rfl | ⟨h1, h2⟩
  · rfl
  · rw [fabs_zero h1, fabs_zero h2]
theorem zn_scU (h : ∀ j, j < k → zn (num vs j) (num us j)) : scU vs k = scU us k ∧ allF vs k = allF us k := by
  induction k with
  | zero => exact ⟨rfl, rfl⟩
  | succ k ih =>
    obtain ⟨h1, h2⟩ := ih fun j hj => h j (by omega)
    have hz := h k (by omega)
    rw [scU, scU, scN, scN, allF, allF, h1, h2, zn_fabs hz, zn_fin hz]
    exact ⟨rfl, rfl⟩
theorem zn_qz {S a b : Nat} (hs : pos S) (h : zn a b) : qz S a = qz S b := by
  rcases h with rfl | ⟨h1, h2⟩
  · rfl
  · cases hg : fcmp .gtr .f32 S 0
    · rw [qz_n hg, qz_n hg]
    · have hg' := hg
      rw [pos_gtr hs, decide_eq_true_eq] at hg'
      rw [qz_y hg, qz_y hg, qI_zero h1 hs.1 hg', qI_zero h2 hs.1 hg']
theorem zn_body {S : Nat} (hs : pos S) (h : ∀ j, j < k → zn (num vs j) (num us j)) : bodyU vs S k = bodyU us S k := by
  induction k with
  | zero => rfl
  | succ k ih => rw [bodyU, bodyU, ih fun j hj => h j (by omega), zn_qz hs (h k (by omega))]
theorem zn_pkL (hl : vs.length = us.length) (ha : allF vs (vs.length * 3) = true) (h : ∀ j, j < vs.length * 3 → zn (num vs j) (num us j)) : pkL f st wi hi de vs = pkL f st wi hi de us := by
  obtain ⟨h1, _⟩ := zn_scU h
  unfold pkL
  rw [← hl, ← h1, zn_body (allF_pos ha) h]
end
end Go.Proofs.Ytnommdpgmoljcaa


namespace Go.Proofs.Ytnommdpgmoljcaa
open Go.RowKit

/-- The k-th number of a text. -/
def unV (s : ByteArray) (k : Nat) : Nat := fconv .f64 .f32 (unX (rd4 s 23) (q16 (rd2 s (27 + k * 2))))
def unL (s : ByteArray) (n : Nat) : List V3 := (List.range n).map fun i => (unV s (i * 3), unV s (i * 3 + 1), unV s (i * 3 + 2))
theorem unL_length {s : ByteArray} {n : Nat} : (unL s n).length = n := by simp [unL]
theorem unL_get {s : ByteArray} {n i : Nat} (h : i < n) : (unL s n).getD i z3 = (unV s (i * 3), unV s (i * 3 + 1), unV s (i * 3 + 2)) := by simp [unL, List.getD, h]
theorem unL_num {s : ByteArray} {n k : Nat} (h : k < n * 3) : num (unL s n) k = unV s k := by
  have hi : k / 3 < n := by omega
  unfold num
  rw [unL_get hi]
  split
  · show unV s (k / 3 * 3) = _; congr 1; omega
  · split
    · show unV s (k / 3 * 3 + 1) = _; congr 1; omega
    · show unV s (k / 3 * 3 + 2) = _; congr 1; omega
theorem list_num {vs us : List V3} (hl : vs.length = us.length) (h : ∀ k, k < vs.length * 3 → num vs k = num us k) : vs = us := by
  apply List.ext_getElem hl
  intro i h1 h2
  have e0 := h (i * 3) (by omega)
  have e1 := h (i * 3 + 1) (by omega)
  have e2 := h (i * 3 + 2) (by omega)
  rw [num_0, num_0] at e0
  rw [num_1, num_1] at e1
  rw [num_2, num_2] at e2
  simp only [List.getD, List.getElem?_eq_getElem h1, List.getElem?_eq_getElem h2, Option.getD_some] at e0 e1 e2
  exact Prod.ext e0 (Prod.ext e1 e2)
section
variable {f : V3} {st : Nat} {wi hi de : Int} {vs : List V3} {s : ByteArray}
/-- What is unpacked so, and packs to the text again, is the text's numbers. -/
theorem un_is (h : ∀ k, k < vs.length * 3 → Nar (unX (cb .f32 (rd4 s 23)) (q16 (rd2 s (27 + k * 2)))) (num vs k)) (ha : allF vs (vs.length * 3) = true) (he : stb (pkL f st wi hi de vs) = s) : vs = unL s vs.length := by
  rw [un_cb he] at h
  refine list_num unL_length.symm fun k hk => ?_
  rw [unL_num hk]
  exact (h k hk).2 (un_det ha he hk).2.2
/-- the number, a zero without its sign -/
def az (v : Nat) : Nat := if rng Ieee.single v = 0 then 0 else v
theorem zn_az (v : Nat) : zn (az v) v := by
  unfold az; split
  · exact .inr ⟨by decide, by assumption⟩
  · exact .inl rfl
theorem un_isS (h : ∀ k, k < vs.length * 3 → ∃ v, Nar (unX (cb .f32 (rd4 s 23)) (q16 (rd2 s (27 + k * 2)))) v ∧ num vs k = az v) (ha : allF vs (vs.length * 3) = true) (he : stb (pkL f st wi hi de vs) = s) : vs = unL s vs.length := by
  rw [un_cb he] at h
  refine list_num unL_length.symm fun k hk => ?_
  rw [unL_num hk]
  obtain ⟨v, hv, hn⟩ := h k hk
  obtain ⟨d1, d2, d3⟩ := un_det ha he hk
  have hv2 := hv.2 d3
  have hS := allF_pos ha
  rw [← d1] at hS
  rw [hn]
  unfold az
  by_cases h0 : rng Ieee.single v = 0
  · rw [if_pos h0]
    have hz : qz (rd4 s 23) (num vs k) = 0 := by
      rw [hn]
      have h1 : rng Ieee.single (az v) = 0 := by unfold az; rw [if_pos h0]; decide
      cases hg : fcmp .gtr .f32 (rd4 s 23) 0
      · exact qz_n hg
      · have hg' := hg
        rw [pos_gtr hS, decide_eq_true_eq] at hg'
        rw [qz_y hg, qI_zero h1 hS.1 hg']
    unfold unV
    rw [d2, hz, unX_zero hS]
    decide
  · rw [if_neg h0]; exact hv2
end
section
variable {f : V3} {st : Nat} {wi hi de : Int} {vs : List V3} {s : ByteArray} {n : Nat}
/-- .. and the other way round -/
theorem un_back (hl : vs.length = n) (h : ∀ k, k < n * 3 → Nar (unX (cb .f32 (rd4 s 23)) (q16 (rd2 s (27 + k * 2)))) (num vs k)) (ha : allF (unL s n) (n * 3) = true) (he : stb (pkL f st wi hi de (unL s n)) = s) : vs = unL s n := by
  rw [un_cb he] at h
  refine list_num (by rw [hl, unL_length]) fun k hk => ?_
  rw [hl] at hk
  rw [unL_num hk]
  have hd := un_det (k := k) (vs := unL s n) (f := f) (st := st) (wi := wi) (hi := hi) (de := de) (s := s) (by rw [unL_length]; exact ha) he (by rw [unL_length]; exact hk)
  exact (h k hk).2 hd.2.2
theorem un_backS (hl : vs.length = n) (h : ∀ k, k < n * 3 → ∃ v, Nar (unX (cb .f32 (rd4 s 23)) (q16 (rd2 s (27 + k * 2)))) v ∧ num vs k = az v) (ha : allF (unL s n) (n * 3) = true) (he : stb (pkL f st wi hi de (unL s n)) = s) :
    allF vs (n * 3) = true ∧ stb (pkL f st wi hi de vs) = s := by
  rw [un_cb he] at h
  have hz : ∀ k, k < n * 3 → zn (num (unL s n) k) (num vs k) := by
    intro k hk
    obtain ⟨v, hv, hn⟩ := h k hk
    have hd := un_det (k := k) (vs := unL s n) (f := f) (st := st) (wi := wi) (hi := hi) (de := de) (s := s) (by rw [unL_length]; exact ha) he (by rw [unL_length]; exact hk)
    rw [unL_num hk, hn, show unV s k = v from (hv.2 hd.2.2).symm]
    rcases zn_az v with e | ⟨e1, e2⟩
    · exact .inl e.symm
    · exact .inr ⟨e2, e1⟩
  refine ⟨?_, ?_⟩
  · rw [← (zn_scU hz).2]; exact ha
  · have e := zn_pkL (f := f) (st := st) (wi := wi) (hi := hi) (de := de) (vs := unL s n) (us := vs) (by rw [unL_length, hl]) (by rw [unL_length]; exact ha) (by rw [unL_length]; exact hz)
    rw [← e]
    exact he
end
end Go.Proofs.Ytnommdpgmoljcaa

