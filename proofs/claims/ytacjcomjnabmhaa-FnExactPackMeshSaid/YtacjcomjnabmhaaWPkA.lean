/- Walks: PkA. Printed by gen.py. -/
import Derived.Test.YtacjcomjnabmhaaWMeshB
import Derived.Test.YtacjcomjnabmhaaPackC
import Derived.Test.YtacjcomjnabmhaaAbsA
import Derived.KernelRfl
namespace Go.Proofs.Ytacjcomjnabmhaa
open Go.RowKit
set_option linter.unusedVariables false
set_option linter.unusedSimpArgs false
set_option maxRecDepth 20000

theorem ext223_PkA : ExtF Try.prog 223 Extern.MathFloatBits.float32bits := ⟨_, Try.func223, by kernel_rfl, by kernel_rfl, by kernel_rfl, by kernel_rfl⟩
theorem ext202_PkA : ExtF Try.prog 202 Extern.MathFloatBits.float64bits := ⟨_, Try.func202, by kernel_rfl, by kernel_rfl, by kernel_rfl, by kernel_rfl⟩
theorem ext201_PkA : ExtF Try.prog 201 Extern.MathFloatBits.float64frombits := ⟨_, Try.func201, by kernel_rfl, by kernel_rfl, by kernel_rfl, by kernel_rfl⟩
theorem known203_PkA : Known Try.prog 203 := Known.mk' Try.func203 (by kernel_rfl)
theorem elt5_PkA : Elt Try.prog 5 [Value.int .u8 0] 1 := Elt.mk' (by kernel_rfl) (by decide)
theorem sz22_PkA : (Try.prog.info? 22).map (·.size) = some 1 := by kernel_rfl
theorem fb22_PkA : flatB Try.prog 22 = true := by kernel_rfl
theorem elt22_PkA : Elt Try.prog 22 [Value.float .f32 0] 4 := Elt.mk' (by kernel_rfl) (by decide)
theorem known200_PkA : Known Try.prog 200 := Known.mk' Try.func200 (by kernel_rfl)
theorem sz33_PkA : (Try.prog.info? 33).map (·.size) = some 1 := by kernel_rfl
theorem fb33_PkA : flatB Try.prog 33 = true := by kernel_rfl
theorem sz32_PkA : (Try.prog.info? 32).map (·.size) = some 3 := by kernel_rfl
theorem known153_PkA : Known Try.prog 153 := Known.mk' Try.func153 (by kernel_rfl)
theorem known64_PkA : Known Try.prog 64 := Known.mk' Try.func64 (by kernel_rfl)
attribute [local irreducible] fop fcmp fconv fneg fabs List.getD scN num fround qf qI

theorem c_bitsI {w : World} {x : Nat} (hx : Can .f32 x) : Pure Try.prog 203 [.float .f32 x] w (.int .i64 (x : Int)) := by
  refine Pure.enter Try.func203 rfl Try.ntmps203 (Nat.le_of_ble_eq_true rfl) ?_
  have hlt : x < 4294967296 := Nat.lt_of_lt_of_le hx.lt (by decide)
  refine V.seq ?_
  refine V.region ?_
  refine VL.r (.inl rfl) rfl (by decide) (yr_assign (u := .int .i64 0) rfl rfl) ?_
  refine VL.nil ?_
  refine VE.then_wp ?_
  refine V.seq ?_
  refine V.seq ?_
  refine V.region ?_
  refine VL.r (.inl rfl) rfl (by decide) (yr_move rfl rfl) ?_
  refine VL.r (.inl rfl) rfl (by decide) (yr_move rfl rfl) ?_
  refine VL.r (.inl rfl) rfl (by decide) (yr_fcmp rfl (.inr (.inl rfl)) rfl rfl) ?_
  refine VL.nil ?_
  refine VE.then_wp ?_
  refine V.cond rfl (fun h1 => ?_) (fun h1 => ?_)
  · skip
    rw [fne_self] at h1
    refine V.seq ?_
    refine V.region ?_
    refine VL.r (.inl rfl) rfl (by decide) (yr_assign (u := .int .i64 2143289344) rfl rfl) ?_
    refine VL.nil ?_
    refine VE.then_wp ?_
    refine V.ret ?_
    refine VE.then_ret ?_
    refine ret1 rfl rfl (fun w1 hw => ?_)
    exact ⟨by rw [hx.nan h1]; rfl, hw.below⟩
  · skip
    rw [fne_self] at h1
    refine V.skip ?_
    refine VE.then_wp ?_
    refine V.seq ?_
    refine V.region ?_
    refine VL.r (.inl rfl) rfl (by decide) (yr_move rfl rfl) ?_
    refine VL.q (.inl rfl) rfl (by decide) (yq_ext rfl ext223_PkA (.cons rfl .nil) (fun vs w h => ext_bits32 vs w (by assumption) h)) ?_
    refine VL.r (.inl rfl) rfl (by decide) (yr_intConv rfl Try.underlying210 Try.underlying2 rfl (wrap_in (by omega))) ?_
    refine VL.r (.inl rfl) rfl (by decide) (yr_assign rfl rfl) ?_
    refine VL.nil ?_
    refine VE.then_wp ?_
    refine V.ret ?_
    refine ret1 rfl rfl (fun w1 hw => ?_)
    exact ⟨rfl, hw.below⟩

theorem c_bitsS {w : World} {x : Nat} (hx : Can .f32 x) : Pure Try.prog 200 [.float .f32 x] w (.int .i64 (x : Int)) := by
  refine Pure.enter Try.func200 rfl Try.ntmps200 (Nat.le_of_ble_eq_true rfl) ?_
  have hlt : x < 4294967296 := Nat.lt_of_lt_of_le hx.lt (by decide)
  refine V.seq ?_
  refine V.region ?_
  refine VL.r (.inl rfl) rfl (by decide) (yr_assign (u := .int .i64 0) rfl rfl) ?_
  refine VL.nil ?_
  refine VE.then_wp ?_
  refine V.seq ?_
  refine V.seq ?_
  refine V.region ?_
  refine VL.r (.inl rfl) rfl (by decide) (yr_move rfl rfl) ?_
  refine VL.r (.inl rfl) rfl (by decide) (yr_move rfl rfl) ?_
  refine VL.r (.inl rfl) rfl (by decide) (yr_fcmp rfl (.inr (.inl rfl)) rfl rfl) ?_
  refine VL.nil ?_
  refine VE.then_wp ?_
  refine V.cond rfl (fun h1 => ?_) (fun h1 => ?_)
  · skip
    rw [fne_self] at h1
    refine V.seq ?_
    refine V.region ?_
    refine VL.r (.inl rfl) rfl (by decide) (yr_assign (u := .int .i64 2143289344) rfl rfl) ?_
    refine VL.nil ?_
    refine VE.then_wp ?_
    refine V.ret ?_
    refine VE.then_ret ?_
    refine ret1 rfl rfl (fun w1 hw => ?_)
    exact ⟨by rw [hx.nan h1]; rfl, hw.below⟩
  · skip
    rw [fne_self] at h1
    refine V.skip ?_
    refine VE.then_wp ?_
    refine V.seq ?_
    refine V.region ?_
    refine VL.r (.inl rfl) rfl (by decide) (yr_move rfl rfl) ?_
    refine VL.q (.inl rfl) rfl (by decide) (yq_ext rfl ext223_PkA (.cons rfl .nil) (fun vs w h => ext_bits32 vs w (by assumption) h)) ?_
    refine VL.r (.inl rfl) rfl (by decide) (yr_intConv rfl Try.underlying210 Try.underlying2 rfl (wrap_in (by omega))) ?_
    refine VL.r (.inl rfl) rfl (by decide) (yr_assign rfl rfl) ?_
    refine VL.nil ?_
    refine VE.then_wp ?_
    refine V.ret ?_
    refine ret1 rfl rfl (fun w1 hw => ?_)
    exact ⟨rfl, hw.below⟩

theorem c_absP {w : World} (x : Nat) : Pure Try.prog 156 [.float .f64 x] w (.float .f64 (fabs .f64 x)) := by
  refine Pure.enter Try.func156 rfl Try.ntmps156 (Nat.le_of_ble_eq_true rfl) ?_
  refine V.seq ?_
  refine V.region ?_
  refine VL.r (.inl rfl) rfl (by decide) (yr_assign (u := .float .f64 0) rfl rfl) ?_
  refine VL.nil ?_
  refine VE.then_wp ?_
  refine V.seq ?_
  refine V.region ?_
  refine VL.r (.inl rfl) rfl (by decide) (yr_move rfl rfl) ?_
  refine VL.new (.inl rfl) rfl (by decide) (extN rfl ext202_PkA (.cons rfl .nil) (fun vs w h => ext_bitsN h)) ?_
  rintro ⟨b4, hb4⟩
  refine VL.r (.inl rfl) rfl (by decide) (yr_andNot63 rfl rfl rfl) ?_
  refine VL.q (.inl rfl) rfl (by decide) (yq_ext rfl ext201_PkA (.cons rfl .nil) (fun vs w h => ext_from64 vs w h)) ?_
  refine VL.r (.inl rfl) rfl (by decide) (yr_assign rfl rfl) ?_
  refine VL.nil ?_
  refine VE.then_wp ?_
  refine V.ret ?_
  refine ret1 rfl rfl (fun w1 hw => ?_)
  exact ⟨congrArg (Value.float .f64) (by rw [cb_abs64, hb4]), hw.below⟩

theorem c_fourB {w0 : World} {a : Option Addr} {c x : Nat} {bs : List Int} (hx : Can .f32 x) (hn : bs.length ≤ 100000) : Mut Try.prog 157 [.slice a bs.length c, .float .f32 x] w0 [⟨a, bl bs, c * 1, 5⟩] (fun p : Option Addr × Nat => .slice p.1 (bs ++ four x).length p.2) (fun p => [⟨p.1, bl (bs ++ four x), p.2 * 1, 5⟩]) := by
  refine Mut.enter Try.func157 rfl Try.ntmps157 (Nat.le_of_ble_eq_true rfl) ?_
  intro F
  refine V.seq ?_
  refine V.region ?_
  refine VL.r (.inl rfl) rfl (by decide) (yr_assign (u := .slice none 0 0) rfl rfl) ?_
  refine VL.nil ?_
  refine VE.then_wp ?_
  refine V.seq ?_
  refine V.region ?_
  refine VL.r (.inl rfl) rfl (by decide) (yr_move rfl rfl) ?_
  refine VL.q (.inl rfl) rfl (by decide) (yq_callf rfl known203_PkA (.cons rfl .nil) (fun w hw => (c_bitsI (by assumption)))) ?_
  refine VL.r (.inl rfl) rfl (by decide) (yr_assign rfl rfl) ?_
  refine VL.nil ?_
  refine VE.then_wp ?_
  refine V.seq ?_
  refine V.seq ?_
  refine V.region ?_
  refine VL.r (.inl rfl) rfl (by decide) (yr_move (u := .int .i64 0) rfl rfl) ?_
  refine VL.nil ?_
  refine VE.then_wp ?_
  refine V.block ?_
  refine V.loopc (G := Nat × (Option Addr) × Nat) [] (fun ⟨i, ar, cr⟩ => i ≤ 4 ∧ True) (fun ⟨i, ar, cr⟩ => (F ++ [⟨ar, bl (bs ++ fourK x i), cr * 1, 5⟩])) (fun ⟨i, ar, cr⟩ => [(0, .slice ar (bs.length + i) cr), (5, .int .i64 ((x / 256 ^ i : Nat) : Int)), (8, .int .i64 (i : Int))]) (fun ⟨i, ar, cr⟩ => 4 - i) (0, a, c) .nil (.cons rfl (.cons (congrArg (fun i => some (Value.int .i64 i)) (by rw [Nat.pow_zero, Nat.div_one])) (.cons rfl .nil))) ?_ ?_ ?_
  · exact (fun w hw => by dsimp only; rw [show fourK x 0 = [] from rfl, List.append_nil]; exact hw)
  · exact (by exact ⟨Nat.zero_le _, trivial⟩)
  rintro ⟨i, ar, cr⟩ ⟨hi9, _⟩
  show V _ _ _ (F ++ [⟨ar, bl (bs ++ fourK x i), cr * 1, 5⟩]) ([(0, .slice ar (bs.length + i) cr), (5, .int .i64 ((x / 256 ^ i : Nat) : Int)), (8, .int .i64 (i : Int))] ++ []) _ _
  refine V.seq ?_
  refine V.region ?_
  refine VL.r (.inl rfl) rfl (by decide) (yr_icmp rfl (.inr (.inr (.inl rfl))) rfl rfl) ?_
  refine VL.nil ?_
  refine VE.then_wp ?_
  refine V.seq ?_
  refine V.cond rfl (fun h1 => ?_) (fun h1 => ?_)
  · skip
    replace h1 := ic_lss h1
    refine V.skip ?_
    refine VE.then_wp ?_
    refine V.seq ?_
    refine V.block ?_
    refine V.seq ?_
    refine V.region ?_
    refine VL.r (.inl rfl) rfl (by decide) (yr_move rfl rfl) ?_
    refine VL.r (.inl rfl) rfl (by decide) (yr_move rfl rfl) ?_
    refine VL.r (.inl rfl) rfl (by decide) (yr_intConv (r := w8 _) rfl Try.underlying2 Try.underlying5 rfl rfl) ?_
    refine VL.new1 (.inl rfl) rfl (by decide) (yn_lit rfl Try.underlying169 elt5_PkA rfl (by decide) (.cons rfl .nil) (by first | (simp; done) | (simp [cn, cn1, cn0]; done)) rfl rfl rfl) ?_
    intro b13
    refine VL.c (.inl rfl) rfl (by decide) (yc_appendz 1 rfl rfl Try.underlying169 elt5_PkA rfl rfl (by repeat (first | exact UpdF.here | apply UpdF.there | apply UpdF.thereS)) (by first | exact Sees.root (by assumption) | exact Sees.own (by repeat (first | exact List.mem_cons_self | exact List.mem_append_left _ (by assumption) | apply List.mem_cons_of_mem | apply List.mem_append_right)) | exact Sees.root (hR _ (by omega)) | exact Sees.own (RowsIn.mem (by repeat (first | exact RowsIn.here | exact RowsIn.last | apply RowsIn.there | apply RowsIn.thereS)) _ (by omega)) | exact Sees.own (WRowsIn.mem (by repeat (first | exact WRowsIn.here | exact WRowsIn.last | apply WRowsIn.there | apply WRowsIn.thereS)) _ (by omega))) rfl (by rw [bl_length, List.length_append, fourK_length, Nat.mul_one]) rfl (bl_scal _) rfl (by omega) (by omega)) ?_
    rintro ⟨a14, c14⟩
    refine VL.r (.inl rfl) rfl (by decide) (yr_assign rfl rfl) ?_
    refine VL.nil ?_
    refine VE.then_wp ?_
    refine V.region ?_
    refine VL.r (.inl rfl) rfl (by decide) (yr_move rfl rfl) ?_
    refine VL.r (.inl rfl) rfl (by decide) (yr_shr (b := 8) (r := ((x / 256 ^ i / 2 ^ 8 : Nat) : Int)) rfl rfl rfl (shr8 _ _ 8 (by decide) rfl)) ?_
    refine VL.r (.inl rfl) rfl (by decide) (yr_assign rfl rfl) ?_
    refine VL.nil ?_
    refine VE.block_normal ?_
    refine VE.then_wp ?_
    refine V.region ?_
    refine VL.r (.inl rfl) rfl (by decide) (yr_int rfl rfl rfl (.inl ⟨rfl, wrap_in (by omega)⟩)) ?_
    refine VL.r (.inl rfl) rfl (by decide) (yr_move rfl rfl) ?_
    refine VL.nil ?_
    refine VE.round (i + 1, a14, c14) ?_ ?_ ?_ ?_ ?_
    · exact (.cons rfl (.cons (congrArg (fun i => some (Value.int .i64 i)) (by rw [four_next])) (.cons rfl .nil)))
    · exact .nil
    · exact (fun w hw => by have h9 := hw.sub (List.sublist_cons_self _ _); dsimp only; rw [← bl_snoc]; exact h9)
    · exact ⟨by omega, trivial⟩
    · (try dsimp only); omega
  · skip
    replace h1 := ic_lss' h1
    refine V.exit ?_
    refine VE.then_exit ?_
    refine VE.then_exit ?_
    refine VE.block_here ?_
    refine VE.then_wp ?_
    refine V.seq ?_
    refine V.region ?_
    refine VL.r (.inl rfl) rfl (by decide) (yr_move rfl rfl) ?_
    refine VL.r (.inl rfl) rfl (by decide) (yr_assign rfl rfl) ?_
    refine VL.nil ?_
    refine VE.then_wp ?_
    refine V.ret ?_
    refine ret1 rfl rfl (fun w1 hw => ?_)
    obtain rfl : i = 4 := by omega
    rw [fourK_all] at hw
    exact ⟨(ar, cr), by rw [List.length_append]; rfl, hw⟩

theorem c_nums {w : World} {x1 x2 x3 : Nat} : New Try.prog 155 [vv (x1, x2, x3)] w (fun p : Nat => .slice (some ⟨p, 0, none⟩) 3 3) (fun p => [⟨some ⟨p, 0, none⟩, fl [x1, x2, x3], 3 * 1, 22⟩]) := by
  refine New.enter Try.func155 rfl Try.ntmps155 (Nat.le_of_ble_eq_true rfl) ?_
  refine V.seq ?_
  refine V.region ?_
  refine VL.new1 (.inl rfl) rfl (by decide) (yn_box rfl rfl (.inr ⟨rfl, rfl⟩)) ?_
  intro b1
  refine VL.r (.inl rfl) rfl (by decide) (yr_assign (u := .slice none 0 0) rfl rfl) ?_
  refine VL.nil ?_
  refine VE.then_wp ?_
  refine V.seq ?_
  refine V.region ?_
  refine VL.r (.inl rfl) rfl (by decide) (yr_fieldAddr rfl Try.underlying32 rfl rfl sz22_PkA (by decide) rfl) ?_
  refine VL.q (.inl rfl) rfl (by decide) (yq_load rfl fb22_PkA rfl (by first | exact Sees.root (by assumption) | exact Sees.own (by repeat (first | exact List.mem_cons_self | exact List.mem_append_left _ (by assumption) | apply List.mem_cons_of_mem | apply List.mem_append_right)) | exact Sees.root (hR _ (by omega)) | exact Sees.own (RowsIn.mem (by repeat (first | exact RowsIn.here | exact RowsIn.last | apply RowsIn.there | apply RowsIn.thereS)) _ (by omega)) | exact Sees.own (WRowsIn.mem (by repeat (first | exact WRowsIn.here | exact WRowsIn.last | apply WRowsIn.there | apply WRowsIn.thereS)) _ (by omega))) rfl) ?_
  refine VL.r (.inl rfl) rfl (by decide) (yr_fieldAddr rfl Try.underlying32 rfl rfl sz22_PkA (by decide) rfl) ?_
  refine VL.q (.inl rfl) rfl (by decide) (yq_load rfl fb22_PkA rfl (by first | exact Sees.root (by assumption) | exact Sees.own (by repeat (first | exact List.mem_cons_self | exact List.mem_append_left _ (by assumption) | apply List.mem_cons_of_mem | apply List.mem_append_right)) | exact Sees.root (hR _ (by omega)) | exact Sees.own (RowsIn.mem (by repeat (first | exact RowsIn.here | exact RowsIn.last | apply RowsIn.there | apply RowsIn.thereS)) _ (by omega)) | exact Sees.own (WRowsIn.mem (by repeat (first | exact WRowsIn.here | exact WRowsIn.last | apply WRowsIn.there | apply WRowsIn.thereS)) _ (by omega))) rfl) ?_
  refine VL.r (.inl rfl) rfl (by decide) (yr_fieldAddr rfl Try.underlying32 rfl rfl sz22_PkA (by decide) rfl) ?_
  refine VL.q (.inl rfl) rfl (by decide) (yq_load rfl fb22_PkA rfl (by first | exact Sees.root (by assumption) | exact Sees.own (by repeat (first | exact List.mem_cons_self | exact List.mem_append_left _ (by assumption) | apply List.mem_cons_of_mem | apply List.mem_append_right)) | exact Sees.root (hR _ (by omega)) | exact Sees.own (RowsIn.mem (by repeat (first | exact RowsIn.here | exact RowsIn.last | apply RowsIn.there | apply RowsIn.thereS)) _ (by omega)) | exact Sees.own (WRowsIn.mem (by repeat (first | exact WRowsIn.here | exact WRowsIn.last | apply WRowsIn.there | apply WRowsIn.thereS)) _ (by omega))) rfl) ?_
  refine VL.new1 (.inl rfl) rfl (by decide) (yn_lit rfl Try.underlying29 elt22_PkA rfl (by decide) (.cons rfl (.cons rfl (.cons rfl .nil))) (by first | (simp; done) | (simp [cn, cn1, cn0]; done)) rfl rfl rfl) ?_
  intro b9
  refine VL.r (.inl rfl) rfl (by decide) (yr_assign rfl rfl) ?_
  refine VL.nil ?_
  refine VE.then_wp ?_
  refine V.ret ?_
  refine ret1 rfl rfl (fun w1 hw => ?_)
  exact ⟨b9, rfl, hw.out1⟩

theorem c_part {w : World} {x1 x2 x3 : Nat} {j : Nat} (hj : j < 3) : Pure Try.prog 153 [vv (x1, x2, x3), .int .i64 (j : Int)] w (.float .f32 (part3 (x1, x2, x3) j)) := by
  refine Pure.enter Try.func153 rfl Try.ntmps153 (Nat.le_of_ble_eq_true rfl) ?_
  refine V.seq ?_
  refine V.region ?_
  refine VL.new1 (.inl rfl) rfl (by decide) (yn_box rfl rfl (.inr ⟨rfl, rfl⟩)) ?_
  intro b2
  refine VL.r (.inl rfl) rfl (by decide) (yr_assign (u := .float .f32 0) rfl rfl) ?_
  refine VL.nil ?_
  refine VE.then_wp ?_
  refine V.seq ?_
  refine V.seq ?_
  refine V.region ?_
  refine VL.r (.inl rfl) rfl (by decide) (yr_move rfl rfl) ?_
  refine VL.nil ?_
  refine VE.then_wp ?_
  refine V.block ?_
  refine V.seq ?_
  refine V.region ?_
  refine VL.r (.inl rfl) rfl (by decide) (yr_icmp rfl (.inl rfl) rfl rfl) ?_
  refine VL.r (.inl rfl) rfl (by decide) (yr_assign rfl rfl) ?_
  refine VL.nil ?_
  refine VE.then_wp ?_
  refine V.cond rfl (fun h1 => ?_) (fun h1 => ?_)
  · skip
    replace h1 := ic_eql h1
    refine V.seq ?_
    refine V.region ?_
    refine VL.r (.inl rfl) rfl (by decide) (yr_fieldAddr rfl Try.underlying32 rfl rfl sz22_PkA (by decide) rfl) ?_
    refine VL.q (.inl rfl) rfl (by decide) (yq_load rfl fb22_PkA rfl (by first | exact Sees.root (by assumption) | exact Sees.own (by repeat (first | exact List.mem_cons_self | exact List.mem_append_left _ (by assumption) | apply List.mem_cons_of_mem | apply List.mem_append_right)) | exact Sees.root (hR _ (by omega)) | exact Sees.own (RowsIn.mem (by repeat (first | exact RowsIn.here | exact RowsIn.last | apply RowsIn.there | apply RowsIn.thereS)) _ (by omega)) | exact Sees.own (WRowsIn.mem (by repeat (first | exact WRowsIn.here | exact WRowsIn.last | apply WRowsIn.there | apply WRowsIn.thereS)) _ (by omega))) rfl) ?_
    refine VL.r (.inl rfl) rfl (by decide) (yr_assign rfl rfl) ?_
    refine VL.nil ?_
    refine VE.then_wp ?_
    refine V.ret ?_
    refine VE.block_ret ?_
    refine VE.then_ret ?_
    refine ret1 rfl rfl (fun w1 hw => ?_)
    first
      | (obtain rfl : j = 0 := by omega
         exact ⟨rfl, hw.below⟩)
      | (obtain rfl : j = 1 := by omega
         exact ⟨rfl, hw.below⟩)
      | (obtain rfl : j = 2 := by omega
         exact ⟨rfl, hw.below⟩)
  · skip
    replace h1 := ic_eql' h1
    refine V.seq ?_
    refine V.region ?_
    refine VL.r (.inl rfl) rfl (by decide) (yr_icmp rfl (.inl rfl) rfl rfl) ?_
    refine VL.r (.inl rfl) rfl (by decide) (yr_assign rfl rfl) ?_
    refine VL.nil ?_
    refine VE.then_wp ?_
    refine V.cond rfl (fun h2 => ?_) (fun h2 => ?_)
    · skip
      replace h2 := ic_eql h2
      refine V.seq ?_
      refine V.region ?_
      refine VL.r (.inl rfl) rfl (by decide) (yr_fieldAddr rfl Try.underlying32 rfl rfl sz22_PkA (by decide) rfl) ?_
      refine VL.q (.inl rfl) rfl (by decide) (yq_load rfl fb22_PkA rfl (by first | exact Sees.root (by assumption) | exact Sees.own (by repeat (first | exact List.mem_cons_self | exact List.mem_append_left _ (by assumption) | apply List.mem_cons_of_mem | apply List.mem_append_right)) | exact Sees.root (hR _ (by omega)) | exact Sees.own (RowsIn.mem (by repeat (first | exact RowsIn.here | exact RowsIn.last | apply RowsIn.there | apply RowsIn.thereS)) _ (by omega)) | exact Sees.own (WRowsIn.mem (by repeat (first | exact WRowsIn.here | exact WRowsIn.last | apply WRowsIn.there | apply WRowsIn.thereS)) _ (by omega))) rfl) ?_
      refine VL.r (.inl rfl) rfl (by decide) (yr_assign rfl rfl) ?_
      refine VL.nil ?_
      refine VE.then_wp ?_
      refine V.ret ?_
      refine VE.block_ret ?_
      refine VE.then_ret ?_
      refine ret1 rfl rfl (fun w1 hw => ?_)
      first
        | (obtain rfl : j = 0 := by omega
           exact ⟨rfl, hw.below⟩)
        | (obtain rfl : j = 1 := by omega
           exact ⟨rfl, hw.below⟩)
        | (obtain rfl : j = 2 := by omega
           exact ⟨rfl, hw.below⟩)
    · skip
      replace h2 := ic_eql' h2
      refine V.skip ?_
      refine VE.block_normal ?_
      refine VE.then_wp ?_
      refine V.seq ?_
      refine V.region ?_
      refine VL.r (.inl rfl) rfl (by decide) (yr_fieldAddr rfl Try.underlying32 rfl rfl sz22_PkA (by decide) rfl) ?_
      refine VL.q (.inl rfl) rfl (by decide) (yq_load rfl fb22_PkA rfl (by first | exact Sees.root (by assumption) | exact Sees.own (by repeat (first | exact List.mem_cons_self | exact List.mem_append_left _ (by assumption) | apply List.mem_cons_of_mem | apply List.mem_append_right)) | exact Sees.root (hR _ (by omega)) | exact Sees.own (RowsIn.mem (by repeat (first | exact RowsIn.here | exact RowsIn.last | apply RowsIn.there | apply RowsIn.thereS)) _ (by omega)) | exact Sees.own (WRowsIn.mem (by repeat (first | exact WRowsIn.here | exact WRowsIn.last | apply WRowsIn.there | apply WRowsIn.thereS)) _ (by omega))) rfl) ?_
      refine VL.r (.inl rfl) rfl (by decide) (yr_assign rfl rfl) ?_
      refine VL.nil ?_
      refine VE.then_wp ?_
      refine V.ret ?_
      refine ret1 rfl rfl (fun w1 hw => ?_)
      first
        | (obtain rfl : j = 0 := by omega
           exact ⟨rfl, hw.below⟩)
        | (obtain rfl : j = 1 := by omega
           exact ⟨rfl, hw.below⟩)
        | (obtain rfl : j = 2 := by omega
           exact ⟨rfl, hw.below⟩)

theorem c_four {w : World} {x : Nat} (hx : Can .f32 x) : New Try.prog 152 [.float .f32 x] w (fun p : Nat => .slice (some ⟨p, 0, none⟩) 4 4) (fun p => [⟨some ⟨p, 0, none⟩, bl (four x), 4 * 1, 5⟩]) := by
  refine New.enter Try.func152 rfl Try.ntmps152 (Nat.le_of_ble_eq_true rfl) ?_
  refine V.seq ?_
  refine V.region ?_
  refine VL.r (.inl rfl) rfl (by decide) (yr_assign (u := .slice none 0 0) rfl rfl) ?_
  refine VL.nil ?_
  refine VE.then_wp ?_
  refine V.seq ?_
  refine V.region ?_
  refine VL.r (.inl rfl) rfl (by decide) (yr_move rfl rfl) ?_
  refine VL.q (.inl rfl) rfl (by decide) (yq_callf rfl known200_PkA (.cons rfl .nil) (fun w hw => (c_bitsS (by assumption)))) ?_
  refine VL.r (.inl rfl) rfl (by decide) (yr_assign rfl rfl) ?_
  refine VL.nil ?_
  refine VE.then_wp ?_
  refine V.seq ?_
  refine V.region ?_
  refine VL.r (.inl rfl) rfl (by decide) (yr_move rfl rfl) ?_
  refine VL.r (.inl rfl) rfl (by decide) (yr_bits rfl rfl rfl (.inl ⟨rfl, and255 _⟩)) ?_
  refine VL.r (.inl rfl) rfl (by decide) (yr_intConv (r := w8 (x : Int)) rfl Try.underlying2 Try.underlying5 rfl (w8_255 _)) ?_
  refine VL.r (.inl rfl) rfl (by decide) (yr_move rfl rfl) ?_
  refine VL.r (.inl rfl) rfl (by decide) (yr_shr (b := 8) (r := ((x / 256 : Nat) : Int)) rfl rfl rfl (shr8 x _ 8 (by decide) rfl)) ?_
  refine VL.r (.inl rfl) rfl (by decide) (yr_bits rfl rfl rfl (.inl ⟨rfl, and255 _⟩)) ?_
  refine VL.r (.inl rfl) rfl (by decide) (yr_intConv (r := w8 ((x / 256 : Nat) : Int)) rfl Try.underlying2 Try.underlying5 rfl (w8_255 _)) ?_
  refine VL.r (.inl rfl) rfl (by decide) (yr_move rfl rfl) ?_
  refine VL.r (.inl rfl) rfl (by decide) (yr_shr (b := 16) (r := ((x / 65536 : Nat) : Int)) rfl rfl rfl (shr8 x _ 16 (by decide) rfl)) ?_
  refine VL.r (.inl rfl) rfl (by decide) (yr_bits rfl rfl rfl (.inl ⟨rfl, and255 _⟩)) ?_
  refine VL.r (.inl rfl) rfl (by decide) (yr_intConv (r := w8 ((x / 65536 : Nat) : Int)) rfl Try.underlying2 Try.underlying5 rfl (w8_255 _)) ?_
  refine VL.r (.inl rfl) rfl (by decide) (yr_move rfl rfl) ?_
  refine VL.r (.inl rfl) rfl (by decide) (yr_shr (b := 24) (r := ((x / 16777216 : Nat) : Int)) rfl rfl rfl (shr8 x _ 24 (by decide) rfl)) ?_
  refine VL.r (.inl rfl) rfl (by decide) (yr_bits rfl rfl rfl (.inl ⟨rfl, and255 _⟩)) ?_
  refine VL.r (.inl rfl) rfl (by decide) (yr_intConv (r := w8 ((x / 16777216 : Nat) : Int)) rfl Try.underlying2 Try.underlying5 rfl (w8_255 _)) ?_
  refine VL.new1 (.inl rfl) rfl (by decide) (yn_lit rfl Try.underlying169 elt5_PkA rfl (by decide) (.cons rfl (.cons rfl (.cons rfl (.cons rfl .nil)))) (by first | (simp; done) | (simp [cn, cn1, cn0]; done)) rfl rfl rfl) ?_
  intro b21
  refine VL.r (.inl rfl) rfl (by decide) (yr_assign rfl rfl) ?_
  refine VL.nil ?_
  refine VE.then_wp ?_
  refine V.ret ?_
  refine ret1 rfl rfl (fun w1 hw => ?_)
  exact ⟨b21, rfl, hw.out1⟩

theorem c_scale {w : World} {q : Option Addr} {f1 f2 f3 st : Nat} {wi hi de : Int} {a : Option Addr} {c : Nat} {vs : List V3} (hQ : Cl w q [.float .f32 f1, .float .f32 f2, .float .f32 f3, .float .f32 st, .int .i64 wi, .int .i64 hi, .int .i64 de, .slice a vs.length c]) (hA : Cl w a (vl vs)) (hX : Cans3 vs) (hn : vs.length ≤ 1000) : Pure Try.prog 151 [.pointer (some (adr q 0))] w (.tuple #[.float .f32 (if allF vs (vs.length * 3) then scU vs (vs.length * 3) else 0), .bool (allF vs (vs.length * 3))]) := by
  refine Pure.enter Try.func151 rfl Try.ntmps151 (Nat.le_of_ble_eq_true rfl) ?_
  refine V.seq ?_
  refine V.region ?_
  refine VL.r (.inl rfl) rfl (by decide) (yr_assign (u := .float .f32 0) rfl rfl) ?_
  refine VL.r (.inl rfl) rfl (by decide) (yr_assign (u := .bool false) rfl rfl) ?_
  refine VL.nil ?_
  refine VE.then_wp ?_
  refine V.seq ?_
  refine V.region ?_
  refine VL.r (.inl rfl) rfl (by decide) (yr_assign (u := .float .f32 0) rfl rfl) ?_
  refine VL.nil ?_
  refine VE.then_wp ?_
  refine V.seq ?_
  refine V.seq ?_
  refine V.region ?_
  refine VL.r (.inl rfl) rfl (by decide) (yr_assign (u := .int .i64 0) rfl rfl) ?_
  refine VL.nil ?_
  refine VE.then_wp ?_
  refine V.block ?_
  refine V.loopc (G := Nat) [(0, _)] (fun (i : Nat) => i ≤ vs.length ∧ allF vs (i * 3) = true) (fun (i : Nat) => []) (fun (i : Nat) => [(4, .float .f32 (scU vs (i * 3))), (5, .int .i64 (i : Int))]) (fun (i : Nat) => vs.length - i) 0 (.cons rfl .nil) (.cons (congrArg (fun n => some (Value.float .f32 n)) (by rw [Nat.zero_mul]; rfl)) (.cons rfl .nil)) ?_ ?_ ?_
  · exact (fun w hw => hw)
  · exact (by exact ⟨Nat.zero_le _, by rw [Nat.zero_mul]; rfl⟩)
  rintro i ⟨hi9, hia⟩
  show V _ _ _ [] ([(4, .float .f32 (scU vs (i * 3))), (5, .int .i64 (i : Int))] ++ [(0, _)]) _ _
  refine V.seq ?_
  refine V.seq ?_
  refine V.region ?_
  refine VL.r (.inl rfl) rfl (by decide) (yr_move rfl rfl) ?_
  refine VL.r (.inl rfl) rfl (by decide) (yr_move rfl rfl) ?_
  refine VL.r (.inl rfl) rfl (by decide) (yr_nilCheck rfl rfl) ?_
  refine VL.r (.inl rfl) rfl (by decide) (yr_fieldAddr rfl Try.underlying35 rfl rfl sz33_PkA (by decide) rfl) ?_
  refine VL.q (.inl rfl) rfl (by decide) (yq_load rfl fb33_PkA rfl (by first | exact Sees.root (by assumption) | exact Sees.own (by repeat (first | exact List.mem_cons_self | exact List.mem_append_left _ (by assumption) | apply List.mem_cons_of_mem | apply List.mem_append_right)) | exact Sees.root (hR _ (by omega)) | exact Sees.own (RowsIn.mem (by repeat (first | exact RowsIn.here | exact RowsIn.last | apply RowsIn.there | apply RowsIn.thereS)) _ (by omega)) | exact Sees.own (WRowsIn.mem (by repeat (first | exact WRowsIn.here | exact WRowsIn.last | apply WRowsIn.there | apply WRowsIn.thereS)) _ (by omega))) rfl) ?_
  refine VL.r (.inl rfl) rfl (by decide) (yr_len rfl Try.underlying33 rfl) ?_
  refine VL.r (.inl rfl) rfl (by decide) (yr_icmp rfl (.inr (.inr (.inl rfl))) rfl rfl) ?_
  refine VL.nil ?_
  refine VE.then_wp ?_
  refine V.cond rfl (fun h1 => ?_) (fun h1 => ?_)
  · skip
    replace h1 := ic_lss h1
    refine V.skip ?_
    refine VE.then_wp ?_
    refine V.seq ?_
    refine V.block ?_
    refine V.seq ?_
    refine V.region ?_
    refine VL.r (.inl rfl) rfl (by decide) (yr_assign (u := .int .i64 0) rfl rfl) ?_
    refine VL.nil ?_
    refine VE.then_wp ?_
    refine V.block ?_
    refine V.loopc (G := Nat) [(0, _), (5, _)] (fun (j : Nat) => j ≤ 3 ∧ allF vs (i * 3 + j) = true) (fun (j : Nat) => []) (fun (j : Nat) => [(4, .float .f32 (scU vs (i * 3 + j))), (6, .int .i64 (j : Int))]) (fun (j : Nat) => 3 - j) 0 (.cons rfl (.cons rfl .nil)) (.cons rfl (.cons rfl .nil)) ?_ ?_ ?_
    · exact (fun w hw => hw)
    · exact (by exact ⟨Nat.zero_le _, hia⟩)
    rintro j ⟨hj, hja⟩
    show V _ _ _ [] ([(4, .float .f32 (scU vs (i * 3 + j))), (6, .int .i64 (j : Int))] ++ [(0, _), (5, _)]) _ _
    refine V.seq ?_
    refine V.seq ?_
    refine V.region ?_
    refine VL.r (.inl rfl) rfl (by decide) (yr_move rfl rfl) ?_
    refine VL.r (.inl rfl) rfl (by decide) (yr_icmp rfl (.inr (.inr (.inl rfl))) rfl rfl) ?_
    refine VL.nil ?_
    refine VE.then_wp ?_
    refine V.cond rfl (fun h2 => ?_) (fun h2 => ?_)
    · skip
      replace h2 := ic_lss h2
      refine V.skip ?_
      refine VE.then_wp ?_
      refine V.seq ?_
      refine V.block ?_
      refine V.seq ?_
      refine V.region ?_
      refine VL.r (.inl rfl) rfl (by decide) (yr_move rfl rfl) ?_
      refine VL.r (.inl rfl) rfl (by decide) (yr_nilCheck rfl rfl) ?_
      refine VL.r (.inl rfl) rfl (by decide) (yr_fieldAddr rfl Try.underlying35 rfl rfl sz33_PkA (by decide) rfl) ?_
      refine VL.q (.inl rfl) rfl (by decide) (yq_load rfl fb33_PkA rfl (by first | exact Sees.root (by assumption) | exact Sees.own (by repeat (first | exact List.mem_cons_self | exact List.mem_append_left _ (by assumption) | apply List.mem_cons_of_mem | apply List.mem_append_right)) | exact Sees.root (hR _ (by omega)) | exact Sees.own (RowsIn.mem (by repeat (first | exact RowsIn.here | exact RowsIn.last | apply RowsIn.there | apply RowsIn.thereS)) _ (by omega)) | exact Sees.own (WRowsIn.mem (by repeat (first | exact WRowsIn.here | exact WRowsIn.last | apply WRowsIn.there | apply WRowsIn.thereS)) _ (by omega))) rfl) ?_
      refine VL.r (.inl rfl) rfl (by decide) (yr_move rfl rfl) ?_
      refine VL.q (.inl rfl) rfl (by decide) (yq_idxN (k := i) rfl Try.underlying33 sz32_PkA rfl rfl (by first | exact Sees.root (by assumption) | exact Sees.own (by repeat (first | exact List.mem_cons_self | exact List.mem_append_left _ (by assumption) | apply List.mem_cons_of_mem | apply List.mem_append_right)) | exact Sees.root (hR _ (by omega)) | exact Sees.own (RowsIn.mem (by repeat (first | exact RowsIn.here | exact RowsIn.last | apply RowsIn.there | apply RowsIn.thereS)) _ (by omega)) | exact Sees.own (WRowsIn.mem (by repeat (first | exact WRowsIn.here | exact WRowsIn.last | apply WRowsIn.there | apply WRowsIn.thereS)) _ (by omega))) (by first | rfl | omega | (push_cast; rfl) | (push_cast; omega) | exact tmod_nat _ _) (by exact vl_length _) (by decide) (by omega)) ?_
      refine VL.q (.inl rfl) rfl (by decide) (yq_loadV rfl Try.underlying32 sz32_PkA rfl (by first | exact Sees.root (by assumption) | exact Sees.own (by repeat (first | exact List.mem_cons_self | exact List.mem_append_left _ (by assumption) | apply List.mem_cons_of_mem | apply List.mem_append_right)) | exact Sees.root (hR _ (by omega)) | exact Sees.own (RowsIn.mem (by repeat (first | exact RowsIn.here | exact RowsIn.last | apply RowsIn.there | apply RowsIn.thereS)) _ (by omega)) | exact Sees.own (WRowsIn.mem (by repeat (first | exact WRowsIn.here | exact WRowsIn.last | apply WRowsIn.there | apply WRowsIn.thereS)) _ (by omega))) (by omega)) ?_
      refine VL.r (.inl rfl) rfl (by decide) (yr_move rfl rfl) ?_
      refine VL.q (.inl rfl) rfl (by decide) (yq_callf rfl known153_PkA (.cons rfl (.cons rfl .nil)) (fun w hw => (c_part (j := j) (by omega)))) ?_
      refine VL.r (.inl rfl) rfl (by decide) (yr_assign rfl rfl) ?_
      refine VL.nil ?_
      refine VE.then_wp ?_
      refine V.seq ?_
      refine V.seq ?_
      refine V.region ?_
      refine VL.r (.inl rfl) rfl (by decide) (yr_move rfl rfl) ?_
      refine VL.q (.inl rfl) rfl (by decide) (yq_callf rfl known64_PkA (.cons rfl .nil) (fun w hw => c_l01Finite _)) ?_
      refine VL.r (.inl rfl) rfl (by decide) (yr_not rfl rfl) ?_
      refine VL.nil ?_
      refine VE.then_wp ?_
      refine V.cond rfl (fun h3 => ?_) (fun h3 => ?_)
      · skip
        replace h3 := bnot_t h3
        refine V.seq ?_
        refine V.region ?_
        refine VL.r (.inl rfl) rfl (by decide) (yr_assign (u := .float .f32 0) rfl rfl) ?_
        refine VL.r (.inl rfl) rfl (by decide) (yr_assign (u := .bool false) rfl rfl) ?_
        refine VL.nil ?_
        refine VE.then_wp ?_
        refine V.ret ?_
        refine VE.then_ret ?_
        refine VE.block_ret ?_
        refine VE.then_ret ?_
        refine VE.then_ret ?_
        refine VE.block_ret ?_
        refine VE.block_ret ?_
        refine VE.then_ret ?_
        refine VE.then_ret ?_
        refine VE.block_ret ?_
        refine VE.then_ret ?_
        refine ret2 rfl rfl rfl (by nofun) (by nofun) (fun w1 hw => ?_)
        first
          | (obtain rfl : i = vs.length := by omega
             exact ⟨by rw [hia]; rfl, hw.below⟩)
          | (have h8 : allF vs (vs.length * 3) = false := allF_no hja (by rw [(num_part (vs := vs) (i := i) (j := j) (by omega))]; assumption) (by omega)
             exact ⟨by rw [h8]; rfl, hw.below⟩)
      · skip
        replace h3 := bnot_f h3
        refine V.skip ?_
        refine VE.then_wp ?_
        refine V.seq ?_
        refine V.seq ?_
        refine V.region ?_
        refine VL.r (.inl rfl) rfl (by decide) (yr_move rfl rfl) ?_
        refine VL.r (.inl rfl) rfl (by decide) (yr_fcmp (b := 0) rfl (.inr (.inr (.inl rfl))) rfl rfl) ?_
        refine VL.nil ?_
        refine VE.then_wp ?_
        refine V.cond rfl (fun h4 => ?_) (fun h4 => ?_)
        · skip
          refine V.region ?_
          refine VL.r (.inl rfl) rfl (by decide) (yr_move rfl rfl) ?_
          refine VL.r (.inl rfl) rfl (by decide) (yr_fneg rfl rfl) ?_
          refine VL.r (.inl rfl) rfl (by decide) (yr_assign rfl rfl) ?_
          refine VL.nil ?_
          refine VE.then_wp ?_
          refine V.seq ?_
          refine V.region ?_
          refine VL.r (.inl rfl) rfl (by decide) (yr_move rfl rfl) ?_
          refine VL.r (.inl rfl) rfl (by decide) (yr_move rfl rfl) ?_
          refine VL.r (.inl rfl) rfl (by decide) (yr_fcmp rfl (.inr (.inr (.inr (.inr (.inl rfl))))) rfl rfl) ?_
          refine VL.nil ?_
          refine VE.then_wp ?_
          refine V.cond rfl (fun h5 => ?_) (fun h5 => ?_)
          · skip
            refine V.region ?_
            refine VL.r (.inl rfl) rfl (by decide) (yr_move rfl rfl) ?_
            refine VL.r (.inl rfl) rfl (by decide) (yr_assign rfl rfl) ?_
            refine VL.nil ?_
            refine VE.block_normal ?_
            refine VE.then_wp ?_
            refine V.region ?_
            refine VL.r (.inl rfl) rfl (by decide) (yr_move rfl rfl) ?_
            refine VL.r (.inl rfl) rfl (by decide) (yr_int rfl rfl rfl (.inl ⟨rfl, wrap_in (by omega)⟩)) ?_
            refine VL.r (.inl rfl) rfl (by decide) (yr_assign rfl rfl) ?_
            refine VL.nil ?_
            refine VE.round (j + 1) ?_ ?_ ?_ ?_ ?_
            · exact (.cons (congrArg (fun n => some (Value.float .f32 n)) (by first | exact scU_n1 (num_part (vs := vs) (i := i) (j := j) (by omega)) (can_part (hX.row (by omega))) (by assumption) (by assumption) (by assumption) | exact scU_n0 (num_part (vs := vs) (i := i) (j := j) (by omega)) (can_part (hX.row (by omega))) (by assumption) (by assumption) (by assumption) | exact scU_p1 hja (num_part (vs := vs) (i := i) (j := j) (by omega)) (can_part (hX.row (by omega))) (by assumption) (by assumption) (by assumption) | exact scU_p0 hja (num_part (vs := vs) (i := i) (j := j) (by omega)) (can_part (hX.row (by omega))) (by assumption) (by assumption) (by assumption))) (.cons rfl .nil))
            · exact (.cons rfl (.cons rfl .nil))
            · exact (fun w hw => hw)
            · exact ⟨by omega, allF_s hja (num_part (vs := vs) (i := i) (j := j) (by omega)) (by assumption)⟩
            · (try dsimp only); omega
          · skip
            refine V.skip ?_
            refine VE.block_normal ?_
            refine VE.then_wp ?_
            refine V.region ?_
            refine VL.r (.inl rfl) rfl (by decide) (yr_move rfl rfl) ?_
            refine VL.r (.inl rfl) rfl (by decide) (yr_int rfl rfl rfl (.inl ⟨rfl, wrap_in (by omega)⟩)) ?_
            refine VL.r (.inl rfl) rfl (by decide) (yr_assign rfl rfl) ?_
            refine VL.nil ?_
            refine VE.round (j + 1) ?_ ?_ ?_ ?_ ?_
            · exact (.cons (congrArg (fun n => some (Value.float .f32 n)) (by first | exact scU_n1 (num_part (vs := vs) (i := i) (j := j) (by omega)) (can_part (hX.row (by omega))) (by assumption) (by assumption) (by assumption) | exact scU_n0 (num_part (vs := vs) (i := i) (j := j) (by omega)) (can_part (hX.row (by omega))) (by assumption) (by assumption) (by assumption) | exact scU_p1 hja (num_part (vs := vs) (i := i) (j := j) (by omega)) (can_part (hX.row (by omega))) (by assumption) (by assumption) (by assumption) | exact scU_p0 hja (num_part (vs := vs) (i := i) (j := j) (by omega)) (can_part (hX.row (by omega))) (by assumption) (by assumption) (by assumption))) (.cons rfl .nil))
            · exact (.cons rfl (.cons rfl .nil))
            · exact (fun w hw => hw)
            · exact ⟨by omega, allF_s hja (num_part (vs := vs) (i := i) (j := j) (by omega)) (by assumption)⟩
            · (try dsimp only); omega
        · skip
          refine V.skip ?_
          refine VE.then_wp ?_
          refine V.seq ?_
          refine V.region ?_
          refine VL.r (.inl rfl) rfl (by decide) (yr_move rfl rfl) ?_
          refine VL.r (.inl rfl) rfl (by decide) (yr_move rfl rfl) ?_
          refine VL.r (.inl rfl) rfl (by decide) (yr_fcmp rfl (.inr (.inr (.inr (.inr (.inl rfl))))) rfl rfl) ?_
          refine VL.nil ?_
          refine VE.then_wp ?_
          refine V.cond rfl (fun h6 => ?_) (fun h6 => ?_)
          · skip
            refine V.region ?_
            refine VL.r (.inl rfl) rfl (by decide) (yr_move rfl rfl) ?_
            refine VL.r (.inl rfl) rfl (by decide) (yr_assign rfl rfl) ?_
            refine VL.nil ?_
            refine VE.block_normal ?_
            refine VE.then_wp ?_
            refine V.region ?_
            refine VL.r (.inl rfl) rfl (by decide) (yr_move rfl rfl) ?_
            refine VL.r (.inl rfl) rfl (by decide) (yr_int rfl rfl rfl (.inl ⟨rfl, wrap_in (by omega)⟩)) ?_
            refine VL.r (.inl rfl) rfl (by decide) (yr_assign rfl rfl) ?_
            refine VL.nil ?_
            refine VE.round (j + 1) ?_ ?_ ?_ ?_ ?_
            · exact (.cons (congrArg (fun n => some (Value.float .f32 n)) (by first | exact scU_n1 (num_part (vs := vs) (i := i) (j := j) (by omega)) (can_part (hX.row (by omega))) (by assumption) (by assumption) (by assumption) | exact scU_n0 (num_part (vs := vs) (i := i) (j := j) (by omega)) (can_part (hX.row (by omega))) (by assumption) (by assumption) (by assumption) | exact scU_p1 hja (num_part (vs := vs) (i := i) (j := j) (by omega)) (can_part (hX.row (by omega))) (by assumption) (by assumption) (by assumption) | exact scU_p0 hja (num_part (vs := vs) (i := i) (j := j) (by omega)) (can_part (hX.row (by omega))) (by assumption) (by assumption) (by assumption))) (.cons rfl .nil))
            · exact (.cons rfl (.cons rfl .nil))
            · exact (fun w hw => hw)
            · exact ⟨by omega, allF_s hja (num_part (vs := vs) (i := i) (j := j) (by omega)) (by assumption)⟩
            · (try dsimp only); omega
          · skip
            refine V.skip ?_
            refine VE.block_normal ?_
            refine VE.then_wp ?_
            refine V.region ?_
            refine VL.r (.inl rfl) rfl (by decide) (yr_move rfl rfl) ?_
            refine VL.r (.inl rfl) rfl (by decide) (yr_int rfl rfl rfl (.inl ⟨rfl, wrap_in (by omega)⟩)) ?_
            refine VL.r (.inl rfl) rfl (by decide) (yr_assign rfl rfl) ?_
            refine VL.nil ?_
            refine VE.round (j + 1) ?_ ?_ ?_ ?_ ?_
            · exact (.cons (congrArg (fun n => some (Value.float .f32 n)) (by first | exact scU_n1 (num_part (vs := vs) (i := i) (j := j) (by omega)) (can_part (hX.row (by omega))) (by assumption) (by assumption) (by assumption) | exact scU_n0 (num_part (vs := vs) (i := i) (j := j) (by omega)) (can_part (hX.row (by omega))) (by assumption) (by assumption) (by assumption) | exact scU_p1 hja (num_part (vs := vs) (i := i) (j := j) (by omega)) (can_part (hX.row (by omega))) (by assumption) (by assumption) (by assumption) | exact scU_p0 hja (num_part (vs := vs) (i := i) (j := j) (by omega)) (can_part (hX.row (by omega))) (by assumption) (by assumption) (by assumption))) (.cons rfl .nil))
            · exact (.cons rfl (.cons rfl .nil))
            · exact (fun w hw => hw)
            · exact ⟨by omega, allF_s hja (num_part (vs := vs) (i := i) (j := j) (by omega)) (by assumption)⟩
            · (try dsimp only); omega
    · skip
      replace h2 := ic_lss' h2
      refine V.exit ?_
      refine VE.then_exit ?_
      refine VE.then_exit ?_
      refine VE.block_here ?_
      refine VE.block_normal ?_
      refine VE.then_wp ?_
      refine V.region ?_
      refine VL.r (.inl rfl) rfl (by decide) (yr_move rfl rfl) ?_
      refine VL.r (.inl rfl) rfl (by decide) (yr_int rfl rfl rfl (.inl ⟨rfl, wrap_in (by omega)⟩)) ?_
      refine VL.r (.inl rfl) rfl (by decide) (yr_assign rfl rfl) ?_
      refine VL.nil ?_
      refine VE.round (i + 1) ?_ ?_ ?_ ?_ ?_
      · exact (.cons (congrArg (fun n => some (Value.float .f32 n)) (by rw [show (i + 1) * 3 = i * 3 + j by omega])) (.cons rfl .nil))
      · exact (.cons rfl .nil)
      · exact (fun w hw => hw)
      · exact ⟨by omega, by rw [show (i + 1) * 3 = i * 3 + j by omega]; exact hja⟩
      · (try dsimp only); omega
  · skip
    replace h1 := ic_lss' h1
    refine V.exit ?_
    refine VE.then_exit ?_
    refine VE.then_exit ?_
    refine VE.block_here ?_
    refine VE.then_wp ?_
    refine V.seq ?_
    refine V.region ?_
    refine VL.r (.inl rfl) rfl (by decide) (yr_move rfl rfl) ?_
    refine VL.r (.inl rfl) rfl (by decide) (yr_assign rfl rfl) ?_
    refine VL.r (.inl rfl) rfl (by decide) (yr_assign (u := .bool true) rfl rfl) ?_
    refine VL.nil ?_
    refine VE.then_wp ?_
    refine V.ret ?_
    refine ret2 rfl rfl rfl (by nofun) (by nofun) (fun w1 hw => ?_)
    first
      | (obtain rfl : i = vs.length := by omega
         exact ⟨by rw [hia]; rfl, hw.below⟩)
      | (have h8 : allF vs (vs.length * 3) = false := allF_no hja (by rw [(num_part (vs := vs) (i := i) (j := j) (by omega))]; assumption) (by omega)
         exact ⟨by rw [h8]; rfl, hw.below⟩)

end Go.Proofs.Ytacjcomjnabmhaa
