/- The field of a ring of twelve points around a place, in whole numbers: a direction, and how far it may be off for all places that are near. -/
import GoSem.Core.Text
namespace Go.Proofs.Ytfkblhlkeglilaa
namespace Mt

set_option maxRecDepth 100000
/-- An edge: its ends, its way, the product of the ends, the square of its length; in 2^-30. -/
structure Ed where
  ax : Int
  ay : Int
  bx : Int
  by' : Int
  ex : Int
  ey : Int
  c0 : Int
  L2 : Nat
def eds : List Ed := [
  ⟨Int.ofNat 1073741824, Int.ofNat 0, Int.ofNat 929887680, Int.ofNat 536870912, Int.negSucc 143854143, Int.ofNat 536870912, Int.ofNat 576460752303423488, 308924390897684480⟩,
  ⟨Int.ofNat 929887680, Int.ofNat 536870912, Int.ofNat 536870784, Int.ofNat 929887744, Int.negSucc 393016895, Int.ofNat 393016832, Int.ofNat 576460849496358912, 308924510776791040⟩,
  ⟨Int.ofNat 536870784, Int.ofNat 929887744, Int.ofNat 0, Int.ofNat 1073741824, Int.negSucc 536870783, Int.ofNat 143854080, Int.ofNat 576460614864470016, 308924235045421056⟩,
  ⟨Int.ofNat 0, Int.ofNat 1073741824, Int.negSucc 536871167, Int.ofNat 929887680, Int.negSucc 536871167, Int.negSucc 143854143, Int.ofNat 576461027181330432, 308924665775656960⟩,
  ⟨Int.negSucc 536871167, Int.ofNat 929887680, Int.negSucc 929887551, Int.ofNat 536870976, Int.negSucc 393016383, Int.negSucc 393016703, Int.ofNat 576460430439739392, 308924007715459072⟩,
  ⟨Int.negSucc 929887551, Int.ofNat 536870976, Int.negSucc 1073741823, Int.ofNat 0, Int.negSucc 143854271, Int.negSucc 536870975, Int.ofNat 576460821022900224, 308924496443842560⟩,
  ⟨Int.negSucc 1073741823, Int.ofNat 0, Int.negSucc 929887743, Int.negSucc 536870783, Int.ofNat 143854080, Int.negSucc 536870783, Int.ofNat 576460614864470016, 308924235045421056⟩,
  ⟨Int.negSucc 929887743, Int.negSucc 536870783, Int.negSucc 536870783, Int.negSucc 929887743, Int.ofNat 393016960, Int.negSucc 393016959, Int.ofNat 576460977728634880, 308924661695283200⟩,
  ⟨Int.negSucc 536870783, Int.negSucc 929887743, Int.ofNat 0, Int.negSucc 1073741823, Int.ofNat 536870784, Int.negSucc 143854079, Int.ofNat 576460614864470016, 308924235045421056⟩,
  ⟨Int.ofNat 0, Int.negSucc 1073741823, Int.ofNat 536870432, Int.negSucc 929887743, Int.ofNat 536870432, Int.ofNat 143854080, Int.ofNat 576460236907347968, 308923857088513024⟩,
  ⟨Int.ofNat 536870432, Int.negSucc 929887743, Int.ofNat 929887936, Int.negSucc 536870783, Int.ofNat 393017504, Int.ofNat 393016960, Int.ofNat 576461345245597696, 308925089298031616⟩,
  ⟨Int.ofNat 929887936, Int.negSucc 536870783, Int.ofNat 1073741824, Int.ofNat 0, Int.ofNat 143853888, Int.ofNat 536870784, Int.ofNat 576460614864470016, 308924179805491200⟩]
/-! What is computed is handed on: the kernel evaluates it once. -/
def force (n : Nat) (k : Nat → Bool) : Bool := k n
def forceI (n : Int) (k : Int → Bool) : Bool := k n
theorem force_is (n : Nat) (k : Nat → Bool) : force n k = k n := by cases n <;> rfl
theorem forceI_is (n : Int) (k : Int → Bool) : forceI n k = k n := by cases n <;> rfl
def n1 (n g : Nat) : Nat := Nat.div (Nat.add g (Nat.div n g)) 2
noncomputable def rt5 (n g : Nat) (k : Nat → Bool) : Bool :=
  force (n1 n g) fun a => force (n1 n a) fun b => force (n1 n b) fun c => force (n1 n c) fun d => force (n1 n d) k
theorem rt5_ex (n g : Nat) (k : Nat → Bool) : ∃ s, rt5 n g k = k s := by unfold rt5; simp only [force_is]; exact ⟨_, rfl⟩
noncomputable def gs1 (n b a : Nat) (k : Nat → Bool) : Bool := force (Bool.rec (motive := fun _ => Nat) a (Nat.add a b) (Nat.ble (Nat.pow 2 (Nat.mul 2 (Nat.add a b))) n)) k
noncomputable def gss (n : Nat) (k : Nat → Bool) : Bool :=
  gs1 n 128 0 fun a => gs1 n 64 a fun a => gs1 n 32 a fun a => gs1 n 16 a fun a => gs1 n 8 a fun a => gs1 n 4 a fun a => gs1 n 2 a fun a => gs1 n 1 a fun a => force (Nat.pow 2 (Nat.add a 1)) k
theorem gss_ex (n : Nat) (k : Nat → Bool) : ∃ s, gss n k = k s := by unfold gss gs1; simp only [force_is]; exact ⟨_, rfl⟩
def sqI (a : Int) : Nat := Nat.mul (Int.natAbs a) (Int.natAbs a)
/-- The square of a distance. -/
def dR (x y z a b : Int) : Nat := Nat.add (Nat.add (sqI (Int.sub x a)) (sqI (Int.sub y b))) (sqI z)
def hiV (e s : Nat) : Nat := Nat.add (Nat.add (Nat.add (Nat.add s 1) e) (Nat.div (Nat.add (Nat.add s 1) e) 4700000)) 1
def loV (e s : Nat) : Nat := Nat.sub (Nat.sub (Nat.sub s e) (Nat.div (Nat.sub s e) 4700000)) 1
/-- A corner: its distance from below and from above. -/
noncomputable def vtx (x y z : Int) (e : Nat) (a b : Int) (_g : Nat) (k : Nat → Nat → Nat → Bool) : Bool :=
  force (Int.natAbs (Int.sub x a)) fun i => force (Int.natAbs (Int.sub y b)) fun j => force (Nat.add (Nat.add (Nat.mul i i) (Nat.mul j j)) (sqI z)) fun R => rt5 R (Nat.add (Nat.add i j) (Int.natAbs z)) fun s =>
    and (Nat.ble (Nat.mul s s) R) (and (Nat.ble R (Nat.mul (Nat.add s 1) (Nat.add s 1)))
      (force (hiV e s) fun h => force (loV e s) fun l => and (Nat.ble h 16000000000) (and (Nat.ble 34000000 l) (k 0 h l))))
def qlV (hA hB L2 : Nat) : Nat := Nat.div (Nat.mul (Nat.add hA hB) 170141183460469231731687303715884105728) (Nat.mul (Nat.mul hA hB) (Nat.sub (Nat.add (Nat.add (Nat.mul (Nat.add hA hB) (Nat.add hA hB)) (Nat.div (Nat.mul (Nat.add hA hB) (Nat.add hA hB)) 2200000)) 1) L2))
def qhV (lA lB L2 : Nat) : Nat := Nat.div (Nat.mul (Nat.add lA lB) 170141183460469231731687303715884105728) (Nat.mul (Nat.mul lA lB) (Nat.sub (Nat.mul (Nat.add lA lB) (Nat.add lA lB)) (Nat.add (Nat.add L2 (Nat.div (Nat.mul (Nat.add lA lB) (Nat.add lA lB)) 2200000)) 1)))
def dn (q : Nat) : Nat := Nat.sub (Nat.sub q (Nat.div q 2097152)) 1
def un (q : Nat) : Nat := Nat.add (Nat.add q (Nat.div q 2097152)) 2
/-- An edge: a number from below and from above. -/
noncomputable def sge (hA lA hB lB L2 : Nat) (k : Nat → Nat → Bool) : Bool :=
  and (Nat.ble (Nat.add (Nat.add (Nat.add L2 (Nat.div (Nat.mul (Nat.add lA lB) (Nat.add lA lB)) 2200000)) 1) 1152921504606848) (Nat.mul (Nat.add lA lB) (Nat.add lA lB)))
    (force (qlV hA hB L2) fun a => force (qhV lA lB L2) fun b => force (dn a) fun l => force (un b) fun u => and (Nat.ble l u) (k l u))
/-- What is known of an edge. -/
structure Dt where
  m : Nat
  w : Nat
  hh : Nat
  ka : Int
  d : Ed
def kaI (x y : Int) (d : Ed) : Int := Int.add d.c0 (Int.sub (Int.mul y d.ex) (Int.mul x d.ey))
/-- how far a product of two ways may be off, with what sums lose -/
def kx (hA hB : Nat) : Nat := Nat.add (Nat.add (Nat.div (Nat.mul hA hB) 2940000) 1) (Nat.mul 520 hA)
noncomputable def ps1 (x y z : Int) (e : Nat) (fin : Nat → Nat → Nat → Nat → Nat → Nat → Nat → Nat → Nat → List Dt → Bool) (l : List Ed) : Nat → Nat → Nat → Nat → Nat → Nat → Nat → Nat → Nat → Nat → Nat → Nat → List Dt → Bool :=
  List.rec (motive := fun _ => Nat → Nat → Nat → Nat → Nat → Nat → Nat → Nat → Nat → Nat → Nat → Nat → List Dt → Bool)
    (fun _ _ _ => fin)
    (fun d _ ih g hA lA XP XN YP YN FP FN SA Sw KT acc =>
      vtx x y z e d.bx d.by' g fun g hB lB => sge hA lA hB lB d.L2 fun ql qh => forceI (kaI x y d) fun ka =>
        ih g hB lB (Nat.add XP (Nat.mul (Nat.add ql qh) (Int.toNat d.ex))) (Nat.add XN (Nat.mul (Nat.add ql qh) (Int.toNat (Int.neg d.ex)))) (Nat.add YP (Nat.mul (Nat.add ql qh) (Int.toNat d.ey))) (Nat.add YN (Nat.mul (Nat.add ql qh) (Int.toNat (Int.neg d.ey))))
          (Nat.add FP (Nat.mul (Nat.add ql qh) (Int.toNat ka))) (Nat.add FN (Nat.mul (Nat.add ql qh) (Int.toNat (Int.neg ka))))
          (Nat.add SA (Nat.mul (Nat.sub qh ql) (Nat.add hA hB))) (Nat.add Sw (Nat.sub qh ql)) (Nat.add KT (Nat.mul (Nat.mul 2 qh) (kx hA hB)))
          (⟨Nat.add ql qh, Nat.sub qh ql, Nat.add hA hB, ka, d⟩ :: acc)) l
def cuI (z u v t : Int) (d : Dt) : Nat := Nat.div (Int.natAbs (Int.add (Int.mul z (Int.sub (Int.mul d.d.ey u) (Int.mul d.d.ex v))) (Int.mul d.ka t))) 1073741824
def ppI (z : Int) (d : Dt) (c : Nat) : Nat := Nat.sub (Nat.add (Nat.add (Nat.add (Nat.mul (sqI z) d.d.L2) (sqI d.ka)) (Nat.div (Nat.mul (Nat.add c 1) (Nat.add c 1)) 16777216)) 1) (Nat.mul c c)
noncomputable def ps2 (z u v t : Int) (fin : Nat → Nat → Bool) (l : List Dt) : Nat → Nat → Bool :=
  List.rec (motive := fun _ => Nat → Nat → Bool) (fun SB NC => fin SB NC)
    (fun d _ ih SB NC => force (cuI z u v t d) fun c => ih (Nat.add SB (Nat.add (Nat.div (Nat.mul d.w (ppI z d c)) d.hh) 1)) (Nat.add NC (Nat.mul d.w (Nat.add c 1)))) l
/-- A number that is near one, by its square. -/
def near1 (n : Nat) : Bool := and (Nat.ble 1152921500311879680 n) (Nat.ble n 1152921508901814272)
noncomputable def fin2 (e SA Sw KT N0 B : Nat) (k : Nat → Nat → Bool) (SB NC : Nat) : Bool :=
  force (Nat.mul SA SB) fun P => gss P fun g => rt5 P g fun s0 => force (Nat.add s0 1) fun S => and (Nat.ble P (Nat.mul S S))
    (force (Nat.add (Nat.add (Nat.mul e (Nat.add B (Nat.mul 555900000 Sw))) KT) 1) fun TE =>
     force (Nat.add (Nat.add (Nat.add TE S) (Nat.div N0 16777216)) 1) fun TT =>
     force (Nat.sub N0 (Nat.add (Nat.add (Nat.add (Nat.add (Nat.div N0 16777216) TE) (Nat.div TE 512)) 2) NC)) fun NN => and (Nat.ble 1000000000000000000000000 NN) (and (Nat.ble KT 80000000000000000000000000) (k TT NN)))
noncomputable def fin1 (z : Int) (e : Nat) (k : Int → Int → Int → Nat → Nat → Bool) (XP XN YP YN FP FN SA0 Sw0 KT0 : Nat) (acc : List Dt) : Bool :=
  force SA0 fun SA => force Sw0 fun Sw => force KT0 fun KT => forceI (Int.subNatNat XP XN) fun W1 => forceI (Int.subNatNat YP YN) fun W2 => forceI (Int.subNatNat FP FN) fun F3 =>
  forceI (Int.mul z W2) fun F1 => forceI (Int.neg (Int.mul z W1)) fun F2 =>
  force (Nat.add (Nat.add (sqI F1) (sqI F2)) (sqI F3)) fun NQ => rt5 NQ (Nat.add (Nat.add (Int.natAbs F1) (Int.natAbs F2)) (Int.natAbs F3)) fun N0 => and (Nat.ble 1 N0)
    (forceI (Int.tdiv (Int.mul F1 (Int.ofNat 1073741824)) (Int.ofNat N0)) fun u => forceI (Int.tdiv (Int.mul F2 (Int.ofNat 1073741824)) (Int.ofNat N0)) fun v => forceI (Int.tdiv (Int.mul F3 (Int.ofNat 1073741824)) (Int.ofNat N0)) fun t =>
     and (near1 (Nat.add (Nat.add (sqI u) (sqI v)) (sqI t)))
      (force (Nat.add (sqI W1) (sqI W2)) fun WQ => rt5 WQ (Nat.add (Nat.add (Int.natAbs W1) (Int.natAbs W2)) 1) fun B0 => force (Nat.add B0 1) fun B => and (Nat.ble WQ (Nat.mul B B))
        (ps2 z u v t (fin2 e SA Sw KT N0 B (k u v t)) acc 0 0)))
noncomputable def bl0 (x y z : Int) (e : Nat) (k : Int → Int → Int → Nat → Nat → Bool) : Bool :=
  vtx x y z e (Int.ofNat 1073741824) (Int.ofNat 0) 4294967296 fun g h l => ps1 x y z e (fin1 z e k) eds g h l 0 0 0 0 0 0 0 0 0 []
/-- The field is not zero. -/
noncomputable def bz (x y z : Int) (e : Nat) : Bool := bl0 x y z e fun _ _ _ _ _ => true
/-- The direction, and how far it may be off. -/
noncomputable def bl (x y z : Int) (e : Nat) (k : Int → Int → Int → Nat → Bool) : Bool :=
  bl0 x y z e fun u v t TT NN => and (Nat.ble TT NN) (force (Nat.add (Nat.div (Nat.mul TT 1073741824) NN) 481) fun ep => k u v t ep)
/-! The tracker: lines that may come near the ring. -/
def far3 (r2 z2 d2 a b : Nat) : Bool := or (Nat.ble d2 z2) (or (and (Nat.ble (Nat.mul (Nat.add 1073741824 a) (Nat.add 1073741824 a)) r2) (Nat.ble d2 (Nat.add (Nat.mul a a) z2))) (and (Nat.ble r2 (Nat.mul (Nat.sub 1037127227 b) (Nat.sub 1037127227 b))) (and (Nat.ble b 1037127227) (Nat.ble d2 (Nat.add (Nat.mul b b) z2)))))
/-- The place is at least so far from the ring. -/
noncomputable def far (x y z : Int) (d : Nat) : Bool :=
  force (Nat.add (sqI x) (sqI y)) fun r2 => rt5 r2 (Nat.add (Int.natAbs x) (Int.natAbs y)) fun r => far3 r2 (sqI z) (Nat.mul d d) (Nat.sub r 1073741824) (Nat.sub 1037127227 (Nat.add r 1))
/-- The place is not too far out. -/
def inR (x y z : Int) (e : Nat) : Bool := and (Nat.ble (Nat.add (Nat.add (sqI x) (sqI y)) (sqI z)) 101872144135000000000) (Nat.ble e 322122547)
def mv (x u : Int) (a h : Nat) : Int := Int.add x (Int.tdiv (Int.mul (Int.ofNat h) u) (Int.ofNat a))
def er (e h ep a : Nat) : Nat := Nat.add (Nat.add e (Nat.div (Nat.mul h ep) a)) 704
/-- how far a place must be when so many steps are left -/
def fd (h n e : Nat) : Nat := Nat.add (Nat.add e (Nat.mul (Nat.mul (Nat.add (Nat.mul 2 n) 1) h) 33554432)) 128849019
noncomputable def stp (h n : Nat) (ih : Int → Int → Int → Nat → Bool) (x y z : Int) (e : Nat) (u v t : Int) (ep : Nat) : Bool :=
  forceI (mv x u 32 h) fun mx => forceI (mv y v 32 h) fun my => forceI (mv z t 32 h) fun mz => force (er e h ep 32) fun em =>
    Bool.rec (motive := fun _ => Bool) (and (inR mx my mz em) (bl mx my mz em fun u v t ep => forceI (mv x u 16 h) fun x => forceI (mv y v 16 h) fun y => forceI (mv z t 16 h) fun z => force (er e h ep 16) fun e => ih x y z e))
      (far mx my mz (Nat.add em 107374183)) (Nat.beq n 0)
noncomputable def trk (h n : Nat) : Int → Int → Int → Nat → Bool :=
  Nat.rec (motive := fun _ => Int → Int → Int → Nat → Bool) (fun _ _ _ _ => true)
    (fun n ih x y z e => or (far x y z (fd h n e)) (and (inR x y z e) (bl x y z e (stp h n ih x y z e)))) n
/-- All steps of a start, if it may come near. -/
noncomputable def trs (x y z u v t : Int) (ep h : Nat) : Bool := or (far x y z (fd h 6 0)) (stp h 6 (trk h 6) x y z 0 u v t ep)
/-! Steps in parts. -/
def df3 (a b c : Int) : Nat := Nat.add (Nat.add (sqI a) (sqI b)) (sqI c)
noncomputable def grp (x y z u v t : Int) (ep hl hh : Nat) : Bool :=
  force (Nat.add hl hh) fun hs => force (Nat.sub hh hl) fun d =>
  forceI (mv x u 128 hs) fun x1 => forceI (mv y v 128 hs) fun y1 => forceI (mv z t 128 hs) fun z1 =>
  force (Nat.add (Nat.add (Nat.mul d 8388608) (Nat.div (Nat.mul hh ep) 64)) 800) fun r1 => bl x1 y1 z1 r1 fun u1 v1 t1 e1 =>
  forceI (mv x (Int.add u u1) 128 hs) fun x2 => forceI (mv y (Int.add v v1) 128 hs) fun y2 => forceI (mv z (Int.add t t1) 128 hs) fun z2 =>
  force (df3 (Int.sub u u1) (Int.sub v v1) (Int.sub t t1)) fun dq => gss dq fun g => rt5 dq g fun dv0 => force (Nat.add dv0 1) fun dv => and (Nat.ble dq (Nat.mul dv dv))
  (force (Nat.add (Nat.add (Nat.add (Nat.mul d 16777216) (Nat.div (Nat.mul hh dv) 64)) (Nat.div (Nat.mul hh (Nat.add ep e1)) 32)) 800) fun r2 => bl x2 y2 z2 r2 fun u2 v2 t2 e2 =>
  forceI (Int.add (Int.mul (Int.ofNat 2) u1) u2) fun u4 => forceI (Int.add (Int.mul (Int.ofNat 2) v1) v2) fun v4 => forceI (Int.add (Int.mul (Int.ofNat 2) t1) t2) fun t4 =>
  forceI (mv x u4 128 hs) fun x3 => forceI (mv y v4 128 hs) fun y3 => forceI (mv z t4 128 hs) fun z3 =>
  force (Nat.add (Nat.add (Nat.add (Nat.mul d 25165824) (Nat.div (Nat.mul hh e1) 32)) (Nat.div (Nat.mul hh e2) 64)) 1600) fun r3 => bl x3 y3 z3 r3 fun u3 v3 t3 e3 =>
  force (df3 (Int.sub (Int.sub (Int.mul (Int.ofNat 2) u2) u1) u3) (Int.sub (Int.sub (Int.mul (Int.ofNat 2) v2) v1) v3) (Int.sub (Int.sub (Int.mul (Int.ofNat 2) t2) t1) t3)) fun fq => gss fq fun g => rt5 fq g fun df0 => force (Nat.add df0 1) fun df => and (Nat.ble fq (Nat.mul df df))
    (Nat.ble (Nat.mul hh (Nat.add (Nat.add df (Nat.mul 2 e2)) (Nat.add e1 e3))) 17162689314))
noncomputable def gr2 (x y z u v t : Int) (ep a b : Nat) : Bool := or (grp x y z u v t ep a b) (and (grp x y z u v t ep a a) (grp x y z u v t ep b b))
noncomputable def grs (x y z u v t : Int) (ep : Nat) : Bool :=
  and (or (grp x y z u v t ep 4 6) (and (gr2 x y z u v t ep 4 5) (grp x y z u v t ep 6 6))) (gr2 x y z u v t ep 7 8)
/-- A start: all steps of all lengths, and steps in parts. -/
noncomputable def st0 (x y z : Int) : Bool :=
  bl x y z 0 fun u v t ep => and (grs x y z u v t ep) (and (trs x y z u v t ep 1) (and (trs x y z u v t ep 2) (and (trs x y z u v t ep 3) (and (trs x y z u v t ep 4) (and (trs x y z u v t ep 5) (and (trs x y z u v t ep 6) (and (trs x y z u v t ep 7) (trs x y z u v t ep 8))))))))
/-- A start in quarters. -/
noncomputable def stq (a b c : Int) : Bool := forceI (Int.mul (Int.add a (Int.ofNat 16)) (Int.ofNat 268435456)) fun x => forceI (Int.mul b (Int.ofNat 268435456)) fun y => forceI (Int.mul c (Int.ofNat 268435456)) fun z => st0 x y z
noncomputable def stc (a b : Int) (n : Nat) : Int → Bool := Nat.rec (motive := fun _ => Int → Bool) (fun _ => true) (fun _ ih c => and (stq a b c) (forceI (Int.add c (Int.ofNat 1)) ih)) n
/-! Squares near the plane of the ring: the field is not zero there. -/
/-- The whole square is near the ring. -/
def insB (a b s : Nat) : Bool := and (Nat.ble (Nat.add (Nat.mul (Nat.add a s) (Nat.add a s)) (Nat.mul (Nat.add b s) (Nat.add b s))) 1392499744826245696) (Nat.ble 866438507396743369 (Nat.add (Nat.mul (Nat.sub a s) (Nat.sub a s)) (Nat.mul (Nat.sub b s) (Nat.sub b s))))
noncomputable def slb (n : Nat) : Int → Int → Nat → Bool :=
  Nat.rec (motive := fun _ => Int → Int → Nat → Bool) (fun _ _ _ => false)
    (fun _ ih x y s => or (insB (Int.natAbs x) (Int.natAbs y) s) (or (force (Nat.add (Nat.add (Nat.div (Nat.mul s 14143) 10000) 1) 5368710) fun e => bz x y (Int.ofNat 0) e)
      (force (Nat.div s 2) fun h => and (Nat.ble s (Nat.mul 2 h)) (forceI (Int.add x (Int.ofNat h)) fun x1 => forceI (Int.sub x (Int.ofNat h)) fun x2 => forceI (Int.add y (Int.ofNat h)) fun y1 => forceI (Int.sub y (Int.ofNat h)) fun y2 =>
        and (ih x1 y1 h) (and (ih x1 y2 h) (and (ih x2 y1 h) (ih x2 y2 h))))))) n
/-- A square of side one, from a corner in halves. -/
noncomputable def slq (a b : Int) : Bool := forceI (Int.mul a (Int.ofNat 536870912)) fun x => forceI (Int.mul b (Int.ofNat 536870912)) fun y => slb 10 x y 536870912
/-! Tables, piece by piece. -/
theorem k0 {a b c : Int} : stc a b 0 c = true := rfl
theorem k1 {a b c : Int} {n : Nat} (h1 : stq a b c = true) (h2 : stc a b n (Int.add c (Int.ofNat 1)) = true) : stc a b (n + 1) c = true := by
  have e : stc a b (n + 1) c = and (stq a b c) (forceI (Int.add c (Int.ofNat 1)) (stc a b n)) := rfl
  rw [e, forceI_is, h1, h2]; rfl
theorem kq {a b : Int} (h : slb 10 (Int.mul a (Int.ofNat 536870912)) (Int.mul b (Int.ofNat 536870912)) 536870912 = true) : slq a b = true := by
  unfold slq
  rw [forceI_is, forceI_is]
  exact h
theorem slb_succ (n : Nat) (x y : Int) (s : Nat) : slb (n + 1) x y s = or (insB (Int.natAbs x) (Int.natAbs y) s) (or (force (Nat.add (Nat.add (Nat.div (Nat.mul s 14143) 10000) 1) 5368710) fun e => bz x y (Int.ofNat 0) e)
      (force (Nat.div s 2) fun h => and (Nat.ble s (Nat.mul 2 h)) (forceI (Int.add x (Int.ofNat h)) fun x1 => forceI (Int.sub x (Int.ofNat h)) fun x2 => forceI (Int.add y (Int.ofNat h)) fun y1 => forceI (Int.sub y (Int.ofNat h)) fun y2 =>
        and (slb n x1 y1 h) (and (slb n x1 y2 h) (and (slb n x2 y1 h) (slb n x2 y2 h)))))) := rfl
theorem or_tt (a b : Bool) : or a (or b true) = true := by cases a <;> cases b <;> rfl
theorem k4 {n s : Nat} {x y : Int} (hs : Nat.ble s (Nat.mul 2 (Nat.div s 2)) = true) (h1 : slb n (Int.add x (Int.ofNat (Nat.div s 2))) (Int.add y (Int.ofNat (Nat.div s 2))) (Nat.div s 2) = true) (h2 : slb n (Int.add x (Int.ofNat (Nat.div s 2))) (Int.sub y (Int.ofNat (Nat.div s 2))) (Nat.div s 2) = true)
    (h3 : slb n (Int.sub x (Int.ofNat (Nat.div s 2))) (Int.add y (Int.ofNat (Nat.div s 2))) (Nat.div s 2) = true) (h4 : slb n (Int.sub x (Int.ofNat (Nat.div s 2))) (Int.sub y (Int.ofNat (Nat.div s 2))) (Nat.div s 2) = true) : slb (n + 1) x y s = true := by
  rw [slb_succ, force_is, force_is, forceI_is, forceI_is, forceI_is, forceI_is, hs, h1, h2, h3, h4]
  exact or_tt _ _
end Mt
end Go.Proofs.Ytfkblhlkeglilaa
