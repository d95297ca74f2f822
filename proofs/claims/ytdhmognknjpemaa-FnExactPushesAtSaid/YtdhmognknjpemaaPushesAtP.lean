import Derived.Test.YtdhmognknjpemaaB
set_option linter.unusedVariables false
set_option linter.unusedSimpArgs false
set_option maxRecDepth 100000
set_option maxHeartbeats 4000000
namespace Go.Rf
open Go
noncomputable def ze3 {R : Type} (x : Nat) (k_ : Bool → Option R) : Option R := (k_ (fcmp BinOp.eql FloatKind.f32 (fop BinOp.sub FloatKind.f32 x x) 0))
noncomputable def zel (x : Nat) : Option (Bool) := ze3 x (fun c0_ => some c0_)
theorem znh {R R' : Type} (o : Option R → Option R') (h0 : o none = none) (x : Nat) (k_ : Bool → Option R) : ze3 x (fun c0_ => o (k_ c0_)) = o (ze3 x k_) := by
  unfold ze3
  repeat (first | refine grd_out h0 ?_ | refine br_out ?_ ?_ | rfl | exact h0.symm)
noncomputable def z71 (x : Nat) : Bool := (zel x).isSome
noncomputable def z6m (x : Nat) : Bool := ((zel x).getD default)
theorem z8k {x : Nat} {r : Bool} (h : zel x = some r) : z71 x = true ∧ z6m x = r := by
  unfold z71 z6m
  rw [h]
  exact ⟨rfl, rfl⟩
noncomputable def zau {R : Type} (a : Nat) (b : Nat) (k_ : Bool → Option R) : Option R := (br (fcmp BinOp.neq FloatKind.f64 a a) (br (fcmp BinOp.neq FloatKind.f64 a a) (k_ (fcmp BinOp.neq FloatKind.f64 b b)) (k_ Bool.false)) (br (fcmp BinOp.neq FloatKind.f64 b b) (br (fcmp BinOp.neq FloatKind.f64 a a) (k_ (fcmp BinOp.neq FloatKind.f64 b b)) (k_ Bool.false)) (br (fcmp BinOp.eql FloatKind.f64 a 0) (br (fcmp BinOp.eql FloatKind.f64 b 0) (k_ (beqB (fcmp BinOp.gtr FloatKind.f64 (fop BinOp.quo FloatKind.f64 4607182418800017408 a) 0) (fcmp BinOp.gtr FloatKind.f64 (fop BinOp.quo FloatKind.f64 4607182418800017408 b) 0))) (k_ (fcmp BinOp.eql FloatKind.f64 a b))) (k_ (fcmp BinOp.eql FloatKind.f64 a b)))))
noncomputable def zbc (a : Nat) (b : Nat) : Option (Bool) := zau a b (fun c0_ => some c0_)
theorem zmk {R R' : Type} (o : Option R → Option R') (h0 : o none = none) (a : Nat) (b : Nat) (k_ : Bool → Option R) : zau a b (fun c0_ => o (k_ c0_)) = o (zau a b k_) := by
  unfold zau
  repeat (first | refine grd_out h0 ?_ | refine br_out ?_ ?_ | rfl | exact h0.symm)
noncomputable def z78 (a : Nat) (b : Nat) : Bool := (zbc a b).isSome
noncomputable def z6q (a : Nat) (b : Nat) : Bool := ((zbc a b).getD default)
theorem z88 {a : Nat} {b : Nat} {r : Bool} (h : zbc a b = some r) : z78 a b = true ∧ z6q a b = r := by
  unfold z78 z6q
  rw [h]
  exact ⟨rfl, rfl⟩
noncomputable def zds {R : Type} (n_ : Int) (low : Int) (q23 : Int) (k_ : Bool → Option R) : Option R := (br (leI low n_) (k_ (leI n_ q23)) (k_ Bool.false))
noncomputable def zdt (n_ : Int) (low : Int) (q23 : Int) : Option (Bool) := zds n_ low q23 (fun c0_ => some c0_)
theorem zp1 {R R' : Type} (o : Option R → Option R') (h0 : o none = none) (n_ : Int) (low : Int) (q23 : Int) (k_ : Bool → Option R) : zds n_ low q23 (fun c0_ => o (k_ c0_)) = o (zds n_ low q23 k_) := by
  unfold zds
  repeat (first | refine grd_out h0 ?_ | refine br_out ?_ ?_ | rfl | exact h0.symm)
noncomputable def zgu (n_ : Int) (low : Int) (q23 : Int) : Bool := (zdt n_ low q23).isSome
noncomputable def zfs (n_ : Int) (low : Int) (q23 : Int) : Bool := ((zdt n_ low q23).getD default)
theorem zlw {n_ : Int} {low : Int} {q23 : Int} {r : Bool} (h : zdt n_ low q23 = some r) : zgu n_ low q23 = true ∧ zfs n_ low q23 = r := by
  unfold zgu zfs
  rw [h]
  exact ⟨rfl, rfl⟩
noncomputable def zhy {R : Type}  (k_ : Nat → Option R) : Option R := (grd (okU FloatKind.f64 9221120237041090561) (k_ (cnI FloatKind.f64 9221120237041090561)))
noncomputable def zi3  : Option (Nat) := zhy (fun c0_ => some c0_)
theorem zqw {R R' : Type} (o : Option R → Option R') (h0 : o none = none)  (k_ : Nat → Option R) : zhy (fun c0_ => o (k_ c0_)) = o (zhy k_) := by
  unfold zhy
  repeat (first | refine grd_out h0 ?_ | refine br_out ?_ ?_ | rfl | exact h0.symm)
noncomputable def zio  : Bool := (zi3).isSome
noncomputable def zgz  : Nat := ((zi3).getD default)
theorem zp8  {r : Nat} (h : zi3 = some r) : zio = true ∧ zgz = r := by
  unfold zio zgz
  rw [h]
  exact ⟨rfl, rfl⟩
noncomputable def zab {R : Type} (a_n : Nat) (a : List Nat) (q1s : Int) (k_ : Int → Option R) : Option R := (br (ltI (subI IntKind.i64 q1s (Int.ofNat a_n)) 0) (k_ (Int.negSucc 0)) (k_ (subI IntKind.i64 q1s (Int.ofNat a_n))))
noncomputable def zaa (a_n : Nat) (a : List Nat) (q1s : Int) : Option (Int) := zab a_n a q1s (fun c0_ => some c0_)
theorem zlr {R R' : Type} (o : Option R → Option R') (h0 : o none = none) (a_n : Nat) (a : List Nat) (q1s : Int) (k_ : Int → Option R) : zab a_n a q1s (fun c0_ => o (k_ c0_)) = o (zab a_n a q1s k_) := by
  unfold zab
  repeat (first | refine grd_out h0 ?_ | refine br_out ?_ ?_ | rfl | exact h0.symm)
noncomputable def zfh (a_n : Nat) (a : List Nat) (q1s : Int) : Bool := (zaa a_n a q1s).isSome
noncomputable def zbh (a_n : Nat) (a : List Nat) (q1s : Int) : Int := ((zaa a_n a q1s).getD default)
theorem zo2 {a_n : Nat} {a : List Nat} {q1s : Int} {r : Int} (h : zaa a_n a q1s = some r) : zfh a_n a q1s = true ∧ zbh a_n a q1s = r := by
  unfold zfh zbh
  rw [h]
  exact ⟨rfl, rfl⟩
noncomputable def zc9 {R : Type} (x : Nat) (k_ : Bool → Option R) : Option R := (br (fcmp BinOp.geq FloatKind.f32 x 981668463) (k_ (fcmp BinOp.leq FloatKind.f32 x 1048508891)) (k_ Bool.false))
noncomputable def zco (x : Nat) : Option (Bool) := zc9 x (fun c0_ => some c0_)
theorem zo9 {R R' : Type} (o : Option R → Option R') (h0 : o none = none) (x : Nat) (k_ : Bool → Option R) : zc9 x (fun c0_ => o (k_ c0_)) = o (zc9 x k_) := by
  unfold zc9
  repeat (first | refine grd_out h0 ?_ | refine br_out ?_ ?_ | rfl | exact h0.symm)
noncomputable def zi0 (x : Nat) : Bool := (zco x).isSome
noncomputable def zh9 (x : Nat) : Bool := ((zco x).getD default)
theorem zqk {x : Nat} {r : Bool} (h : zco x = some r) : zi0 x = true ∧ zh9 x = r := by
  unfold zi0 zh9
  rw [h]
  exact ⟨rfl, rfl⟩
noncomputable def zcw {R : Type} (x : Nat) (k_ : Bool → Option R) : Option R := (k_ (fcmp BinOp.eql FloatKind.f32 (fop BinOp.sub FloatKind.f32 x x) 0))
noncomputable def zcq (x : Nat) : Option (Bool) := zcw x (fun c0_ => some c0_)
theorem zmp {R R' : Type} (o : Option R → Option R') (h0 : o none = none) (x : Nat) (k_ : Bool → Option R) : zcw x (fun c0_ => o (k_ c0_)) = o (zcw x k_) := by
  unfold zcw
  repeat (first | refine grd_out h0 ?_ | refine br_out ?_ ?_ | rfl | exact h0.symm)
noncomputable def z51 (x : Nat) : Bool := (zcq x).isSome
noncomputable def z4b (x : Nat) : Bool := ((zcq x).getD default)
theorem z7e {x : Nat} {r : Bool} (h : zcq x = some r) : z51 x = true ∧ z4b x = r := by
  unfold z51 z4b
  rw [h]
  exact ⟨rfl, rfl⟩
noncomputable def zbn {R : Type} (x : Nat) (low : Nat) (q23 : Nat) (k_ : Bool → Option R) : Option R := (br (fcmp BinOp.geq FloatKind.f32 x low) (k_ (fcmp BinOp.leq FloatKind.f32 x q23)) (k_ Bool.false))
noncomputable def zbt (x : Nat) (low : Nat) (q23 : Nat) : Option (Bool) := zbn x low q23 (fun c0_ => some c0_)
theorem znf {R R' : Type} (o : Option R → Option R') (h0 : o none = none) (x : Nat) (low : Nat) (q23 : Nat) (k_ : Bool → Option R) : zbn x low q23 (fun c0_ => o (k_ c0_)) = o (zbn x low q23 k_) := by
  unfold zbn
  repeat (first | refine grd_out h0 ?_ | refine br_out ?_ ?_ | rfl | exact h0.symm)
noncomputable def zed (x : Nat) (low : Nat) (q23 : Nat) : Bool := (zbt x low q23).isSome
noncomputable def zcy (x : Nat) (low : Nat) (q23 : Nat) : Bool := ((zbt x low q23).getD default)
theorem zjo {x : Nat} {low : Nat} {q23 : Nat} {r : Bool} (h : zbt x low q23 = some r) : zed x low q23 = true ∧ zcy x low q23 = r := by
  unfold zed zcy
  rw [h]
  exact ⟨rfl, rfl⟩
noncomputable def zhr {R : Type} (a : Nat) (b : Nat) (q2o : Nat) (k_ : Nat → Option R) : Option R := (k_ (fop BinOp.add FloatKind.f32 a (fop BinOp.mul FloatKind.f32 q2o (fop BinOp.sub FloatKind.f32 b a))))
noncomputable def zhe (a : Nat) (b : Nat) (q2o : Nat) : Option (Nat) := zhr a b q2o (fun c0_ => some c0_)
theorem zpw {R R' : Type} (o : Option R → Option R') (h0 : o none = none) (a : Nat) (b : Nat) (q2o : Nat) (k_ : Nat → Option R) : zhr a b q2o (fun c0_ => o (k_ c0_)) = o (zhr a b q2o k_) := by
  unfold zhr
  repeat (first | refine grd_out h0 ?_ | refine br_out ?_ ?_ | rfl | exact h0.symm)
noncomputable def zhs (a : Nat) (b : Nat) (q2o : Nat) : Bool := (zhe a b q2o).isSome
noncomputable def zgx (a : Nat) (b : Nat) (q2o : Nat) : Nat := ((zhe a b q2o).getD default)
theorem zrf {a : Nat} {b : Nat} {q2o : Nat} {r : Nat} (h : zhe a b q2o = some r) : zhs a b q2o = true ∧ zgx a b q2o = r := by
  unfold zhs zgx
  rw [h]
  exact ⟨rfl, rfl⟩
noncomputable def zhz {R : Type} (x : Nat) (k_ : Nat → Option R) : Option R := (grd (bnot (nanQ FloatKind.f64 x)) (grd (okU FloatKind.f64 (bitI BinOp.andNot IntKind.u64 (Int.ofNat x) 9223372036854775808)) (k_ (cnI FloatKind.f64 (bitI BinOp.andNot IntKind.u64 (Int.ofNat x) 9223372036854775808)))))
noncomputable def zi4 (x : Nat) : Option (Nat) := zhz x (fun c0_ => some c0_)
theorem zr1 {R R' : Type} (o : Option R → Option R') (h0 : o none = none) (x : Nat) (k_ : Nat → Option R) : zhz x (fun c0_ => o (k_ c0_)) = o (zhz x k_) := by
  unfold zhz
  repeat (first | refine grd_out h0 ?_ | refine br_out ?_ ?_ | rfl | exact h0.symm)
noncomputable def zjm (x : Nat) : Bool := (zi4 x).isSome
noncomputable def zix (x : Nat) : Nat := ((zi4 x).getD default)
theorem zro {x : Nat} {r : Nat} (h : zi4 x = some r) : zjm x = true ∧ zix x = r := by
  unfold zjm zix
  rw [h]
  exact ⟨rfl, rfl⟩
noncomputable def za5 {R : Type} (a_n : Nat) (a : List Nat) (q1s : Int) (k_ : Int → Option R) : Option R := (br (ltI (subI IntKind.i64 q1s (Int.ofNat a_n)) 0) (k_ (Int.negSucc 0)) (k_ (subI IntKind.i64 q1s (Int.ofNat a_n))))
noncomputable def za8 (a_n : Nat) (a : List Nat) (q1s : Int) : Option (Int) := za5 a_n a q1s (fun c0_ => some c0_)
theorem zm1 {R R' : Type} (o : Option R → Option R') (h0 : o none = none) (a_n : Nat) (a : List Nat) (q1s : Int) (k_ : Int → Option R) : za5 a_n a q1s (fun c0_ => o (k_ c0_)) = o (za5 a_n a q1s k_) := by
  unfold za5
  repeat (first | refine grd_out h0 ?_ | refine br_out ?_ ?_ | rfl | exact h0.symm)
noncomputable def zac (a_n : Nat) (a : List Nat) (q1s : Int) : Bool := (za8 a_n a q1s).isSome
noncomputable def z4c (a_n : Nat) (a : List Nat) (q1s : Int) : Int := ((za8 a_n a q1s).getD default)
theorem zhf {a_n : Nat} {a : List Nat} {q1s : Int} {r : Int} (h : za8 a_n a q1s = some r) : zac a_n a q1s = true ∧ z4c a_n a q1s = r := by
  unfold zac z4c
  rw [h]
  exact ⟨rfl, rfl⟩
noncomputable def zft {R : Type} (n_ : Int) (low : Int) (q23 : Int) (k_ : Bool → Option R) : Option R := (br (leI low n_) (k_ (leI n_ q23)) (k_ Bool.false))
noncomputable def zfn (n_ : Int) (low : Int) (q23 : Int) : Option (Bool) := zft n_ low q23 (fun c0_ => some c0_)
theorem zps {R R' : Type} (o : Option R → Option R') (h0 : o none = none) (n_ : Int) (low : Int) (q23 : Int) (k_ : Bool → Option R) : zft n_ low q23 (fun c0_ => o (k_ c0_)) = o (zft n_ low q23 k_) := by
  unfold zft
  repeat (first | refine grd_out h0 ?_ | refine br_out ?_ ?_ | rfl | exact h0.symm)
noncomputable def zhq (n_ : Int) (low : Int) (q23 : Int) : Bool := (zfn n_ low q23).isSome
noncomputable def zgv (n_ : Int) (low : Int) (q23 : Int) : Bool := ((zfn n_ low q23).getD default)
theorem zn1 {n_ : Int} {low : Int} {q23 : Int} {r : Bool} (h : zfn n_ low q23 = some r) : zhq n_ low q23 = true ∧ zgv n_ low q23 = r := by
  unfold zhq zgv
  rw [h]
  exact ⟨rfl, rfl⟩
noncomputable def zd1 {R : Type} (q1z : Nat) (q21 : Nat) (q20 : Nat) (k_ : Unit → Option R) : Option R := (k_ ())
noncomputable def zjs (q1z : Nat) (q21 : Nat) (q20 : Nat) : Option (Unit) := zd1 q1z q21 q20 (fun _ => some ())
theorem zmw {R R' : Type} (o : Option R → Option R') (h0 : o none = none) (q1z : Nat) (q21 : Nat) (q20 : Nat) (k_ : Unit → Option R) : zd1 q1z q21 q20 (fun _ => o (k_ ())) = o (zd1 q1z q21 q20 k_) := by
  unfold zd1
  repeat (first | refine grd_out h0 ?_ | refine br_out ?_ ?_ | rfl | exact h0.symm)
noncomputable def zij (q1z : Nat) (q21 : Nat) (q20 : Nat) : Bool := (zjs q1z q21 q20).isSome
noncomputable def zaz {R : Type} (x : Nat) (k_ : Nat → Option R) : Option R := (grd (fcvB FloatKind.f64 FloatKind.f32 x) (k_ (fcvV FloatKind.f64 FloatKind.f32 x)))
noncomputable def zax (x : Nat) : Option (Nat) := zaz x (fun c0_ => some c0_)
theorem zmn {R R' : Type} (o : Option R → Option R') (h0 : o none = none) (x : Nat) (k_ : Nat → Option R) : zaz x (fun c0_ => o (k_ c0_)) = o (zaz x k_) := by
  unfold zaz
  repeat (first | refine grd_out h0 ?_ | refine br_out ?_ ?_ | rfl | exact h0.symm)
noncomputable def zcu (x : Nat) : Bool := (zax x).isSome
noncomputable def zae (x : Nat) : Nat := ((zax x).getD default)
theorem zjh {x : Nat} {r : Nat} (h : zax x = some r) : zcu x = true ∧ zae x = r := by
  unfold zcu zae
  rw [h]
  exact ⟨rfl, rfl⟩
noncomputable def z83 {R : Type} (q09 : Nat) (q0d : List Nat) (q0a : Nat) (q0e : List Nat) (q0b : Nat) (q0f : List Nat) (q0h : Nat) (q0k : List Nat) (q0w : Int) (q13 : Nat) (q12 : Nat) (i : Int) (k_ : Bool → Option R) : Option R := (grd (zgu i 0 (subI IntKind.i64 (Int.ofNat q0h) 1)) (k_ (zfs i 0 (subI IntKind.i64 (Int.ofNat q0h) 1))))
noncomputable def z84 (q09 : Nat) (q0d : List Nat) (q0a : Nat) (q0e : List Nat) (q0b : Nat) (q0f : List Nat) (q0h : Nat) (q0k : List Nat) (q0w : Int) (q13 : Nat) (q12 : Nat) (i : Int) : Option (Bool) := z83 q09 q0d q0a q0e q0b q0f q0h q0k q0w q13 q12 i (fun c0_ => some c0_)
theorem zj3 {R R' : Type} (o : Option R → Option R') (h0 : o none = none) (q09 : Nat) (q0d : List Nat) (q0a : Nat) (q0e : List Nat) (q0b : Nat) (q0f : List Nat) (q0h : Nat) (q0k : List Nat) (q0w : Int) (q13 : Nat) (q12 : Nat) (i : Int) (k_ : Bool → Option R) : z83 q09 q0d q0a q0e q0b q0f q0h q0k q0w q13 q12 i (fun c0_ => o (k_ c0_)) = o (z83 q09 q0d q0a q0e q0b q0f q0h q0k q0w q13 q12 i k_) := by
  unfold z83
  repeat (first | refine grd_out h0 ?_ | refine br_out ?_ ?_ | rfl | exact h0.symm)
noncomputable def zbf (q09 : Nat) (q0d : List Nat) (q0a : Nat) (q0e : List Nat) (q0b : Nat) (q0f : List Nat) (q0h : Nat) (q0k : List Nat) (q0w : Int) (q13 : Nat) (q12 : Nat) (i : Int) : Bool := (z84 q09 q0d q0a q0e q0b q0f q0h q0k q0w q13 q12 i).isSome
noncomputable def zap (q09 : Nat) (q0d : List Nat) (q0a : Nat) (q0e : List Nat) (q0b : Nat) (q0f : List Nat) (q0h : Nat) (q0k : List Nat) (q0w : Int) (q13 : Nat) (q12 : Nat) (i : Int) : Bool := ((z84 q09 q0d q0a q0e q0b q0f q0h q0k q0w q13 q12 i).getD default)
theorem zke {q09 : Nat} {q0d : List Nat} {q0a : Nat} {q0e : List Nat} {q0b : Nat} {q0f : List Nat} {q0h : Nat} {q0k : List Nat} {q0w : Int} {q13 : Nat} {q12 : Nat} {i : Int} {r : Bool} (h : z84 q09 q0d q0a q0e q0b q0f q0h q0k q0w q13 q12 i = some r) : zbf q09 q0d q0a q0e q0b q0f q0h q0k q0w q13 q12 i = true ∧ zap q09 q0d q0a q0e q0b q0f q0h q0k q0w q13 q12 i = r := by
  unfold zbf zap
  rw [h]
  exact ⟨rfl, rfl⟩
noncomputable def zdu {R : Type} (q1e : Nat) (k_ : Bool → Option R) : Option R := (grd (zed q1e 981668463 1048508891) (k_ (zcy q1e 981668463 1048508891)))
noncomputable def zdr (q1e : Nat) : Option (Bool) := zdu q1e (fun c0_ => some c0_)
theorem zoj {R R' : Type} (o : Option R → Option R') (h0 : o none = none) (q1e : Nat) (k_ : Bool → Option R) : zdu q1e (fun c0_ => o (k_ c0_)) = o (zdu q1e k_) := by
  unfold zdu
  repeat (first | refine grd_out h0 ?_ | refine br_out ?_ ?_ | rfl | exact h0.symm)
noncomputable def zii (q1e : Nat) : Bool := (zdr q1e).isSome
noncomputable def zi1 (q1e : Nat) : Bool := ((zdr q1e).getD default)
theorem zqr {q1e : Nat} {r : Bool} (h : zdr q1e = some r) : zii q1e = true ∧ zi1 q1e = r := by
  unfold zii zi1
  rw [h]
  exact ⟨rfl, rfl⟩
noncomputable def zcn {R : Type} (x : Nat) (k_ : Bool → Option R) : Option R := (grd (z71 x) (br (z6m x) (k_ (fcmp BinOp.geq FloatKind.f32 x 0)) (k_ Bool.false)))
noncomputable def zcc (x : Nat) : Option (Bool) := zcn x (fun c0_ => some c0_)
theorem zo7 {R R' : Type} (o : Option R → Option R') (h0 : o none = none) (x : Nat) (k_ : Bool → Option R) : zcn x (fun c0_ => o (k_ c0_)) = o (zcn x k_) := by
  unfold zcn
  repeat (first | refine grd_out h0 ?_ | refine br_out ?_ ?_ | rfl | exact h0.symm)
noncomputable def zfz (x : Nat) : Bool := (zcc x).isSome
noncomputable def zej (x : Nat) : Bool := ((zcc x).getD default)
theorem zkk {x : Nat} {r : Bool} (h : zcc x = some r) : zfz x = true ∧ zej x = r := by
  unfold zfz zej
  rw [h]
  exact ⟨rfl, rfl⟩
noncomputable def zdo {R : Type} (x : Nat) (k_ : Bool → Option R) : Option R := (grd (zjm x) (k_ (fcmp BinOp.geq FloatKind.f64 (zix x) 4841369599423283200)))
noncomputable def zdq (x : Nat) : Option (Bool) := zdo x (fun c0_ => some c0_)
theorem zot {R R' : Type} (o : Option R → Option R') (h0 : o none = none) (x : Nat) (k_ : Bool → Option R) : zdo x (fun c0_ => o (k_ c0_)) = o (zdo x k_) := by
  unfold zdo
  repeat (first | refine grd_out h0 ?_ | refine br_out ?_ ?_ | rfl | exact h0.symm)
noncomputable def zie (x : Nat) : Bool := (zdq x).isSome
noncomputable def zhu (x : Nat) : Bool := ((zdq x).getD default)
theorem zqq {x : Nat} {r : Bool} (h : zdq x = some r) : zie x = true ∧ zhu x = r := by
  unfold zie zhu
  rw [h]
  exact ⟨rfl, rfl⟩
noncomputable def zb9 {R : Type} (q11 : Nat) (q1d : List Nat) (q16 : Nat) (q1g : List Nat) (q17 : Nat) (q1h : List Nat) (q1s : Int) (k_ : Int → Option R) : Option R := (grd (zac q11 (pF q1d 0 (muN q11 1)) q1s) (br (ltI (z4c q11 (pF q1d 0 (muN q11 1)) q1s) 0) (k_ (Int.negSucc 0)) (grd (zac q16 (pF q1g 0 (muN q16 1)) (z4c q11 (pF q1d 0 (muN q11 1)) q1s)) (br (ltI (z4c q16 (pF q1g 0 (muN q16 1)) (z4c q11 (pF q1d 0 (muN q11 1)) q1s)) 0) (k_ (Int.negSucc 0)) (grd (zac q17 (pF q1h 0 (muN q17 1)) (z4c q16 (pF q1g 0 (muN q16 1)) (z4c q11 (pF q1d 0 (muN q11 1)) q1s))) (br (ltI (z4c q17 (pF q1h 0 (muN q17 1)) (z4c q16 (pF q1g 0 (muN q16 1)) (z4c q11 (pF q1d 0 (muN q11 1)) q1s))) 0) (k_ (Int.negSucc 0)) (k_ (z4c q17 (pF q1h 0 (muN q17 1)) (z4c q16 (pF q1g 0 (muN q16 1)) (z4c q11 (pF q1d 0 (muN q11 1)) q1s))))))))))
noncomputable def zb3 (q11 : Nat) (q1d : List Nat) (q16 : Nat) (q1g : List Nat) (q17 : Nat) (q1h : List Nat) (q1s : Int) : Option (Int) := zb9 q11 q1d q16 q1g q17 q1h q1s (fun c0_ => some c0_)
theorem zmr {R R' : Type} (o : Option R → Option R') (h0 : o none = none) (q11 : Nat) (q1d : List Nat) (q16 : Nat) (q1g : List Nat) (q17 : Nat) (q1h : List Nat) (q1s : Int) (k_ : Int → Option R) : zb9 q11 q1d q16 q1g q17 q1h q1s (fun c0_ => o (k_ c0_)) = o (zb9 q11 q1d q16 q1g q17 q1h q1s k_) := by
  unfold zb9
  repeat (first | refine grd_out h0 ?_ | refine br_out ?_ ?_ | rfl | exact h0.symm)
noncomputable def zgl (q11 : Nat) (q1d : List Nat) (q16 : Nat) (q1g : List Nat) (q17 : Nat) (q1h : List Nat) (q1s : Int) : Bool := (zb3 q11 q1d q16 q1g q17 q1h q1s).isSome
noncomputable def z8z (q11 : Nat) (q1d : List Nat) (q16 : Nat) (q1g : List Nat) (q17 : Nat) (q1h : List Nat) (q1s : Int) : Int := ((zb3 q11 q1d q16 q1g q17 q1h q1s).getD default)
theorem zon {q11 : Nat} {q1d : List Nat} {q16 : Nat} {q1g : List Nat} {q17 : Nat} {q1h : List Nat} {q1s : Int} {r : Int} (h : zb3 q11 q1d q16 q1g q17 q1h q1s = some r) : zgl q11 q1d q16 q1g q17 q1h q1s = true ∧ z8z q11 q1d q16 q1g q17 q1h q1s = r := by
  unfold zgl z8z
  rw [h]
  exact ⟨rfl, rfl⟩
noncomputable def zbr {R : Type} (q09 : Nat) (q0d : List Nat) (q0a : Nat) (q0e : List Nat) (q0b : Nat) (q0f : List Nat) (q0h : Nat) (q0k : List Nat) (q0w : Int) (q13 : Nat) (q12 : Nat) (i : Int) (q1b : Nat) (k_ : Bool → Option R) : Option R := (grd (okIx i q0h) (grd (z51 (fop BinOp.sub FloatKind.f32 (fop BinOp.sub FloatKind.f32 981668463 (gF q0k (Nat.succ (Nat.succ (ixO 0 i 3))))) q1b)) (br (z4b (fop BinOp.sub FloatKind.f32 (fop BinOp.sub FloatKind.f32 981668463 (gF q0k (Nat.succ (Nat.succ (ixO 0 i 3))))) q1b)) (grd (okIx i q0h) (grd (z51 (fop BinOp.sub FloatKind.f32 (fop BinOp.sub FloatKind.f32 1048508891 (gF q0k (Nat.succ (Nat.succ (ixO 0 i 3))))) q1b)) (k_ (z4b (fop BinOp.sub FloatKind.f32 (fop BinOp.sub FloatKind.f32 1048508891 (gF q0k (Nat.succ (Nat.succ (ixO 0 i 3))))) q1b))))) (k_ Bool.false))))
noncomputable def zbo (q09 : Nat) (q0d : List Nat) (q0a : Nat) (q0e : List Nat) (q0b : Nat) (q0f : List Nat) (q0h : Nat) (q0k : List Nat) (q0w : Int) (q13 : Nat) (q12 : Nat) (i : Int) (q1b : Nat) : Option (Bool) := zbr q09 q0d q0a q0e q0b q0f q0h q0k q0w q13 q12 i q1b (fun c0_ => some c0_)
theorem znb {R R' : Type} (o : Option R → Option R') (h0 : o none = none) (q09 : Nat) (q0d : List Nat) (q0a : Nat) (q0e : List Nat) (q0b : Nat) (q0f : List Nat) (q0h : Nat) (q0k : List Nat) (q0w : Int) (q13 : Nat) (q12 : Nat) (i : Int) (q1b : Nat) (k_ : Bool → Option R) : zbr q09 q0d q0a q0e q0b q0f q0h q0k q0w q13 q12 i q1b (fun c0_ => o (k_ c0_)) = o (zbr q09 q0d q0a q0e q0b q0f q0h q0k q0w q13 q12 i q1b k_) := by
  unfold zbr
  repeat (first | refine grd_out h0 ?_ | refine br_out ?_ ?_ | rfl | exact h0.symm)
noncomputable def zh5 (q09 : Nat) (q0d : List Nat) (q0a : Nat) (q0e : List Nat) (q0b : Nat) (q0f : List Nat) (q0h : Nat) (q0k : List Nat) (q0w : Int) (q13 : Nat) (q12 : Nat) (i : Int) (q1b : Nat) : Bool := (zbo q09 q0d q0a q0e q0b q0f q0h q0k q0w q13 q12 i q1b).isSome
noncomputable def zgn (q09 : Nat) (q0d : List Nat) (q0a : Nat) (q0e : List Nat) (q0b : Nat) (q0f : List Nat) (q0h : Nat) (q0k : List Nat) (q0w : Int) (q13 : Nat) (q12 : Nat) (i : Int) (q1b : Nat) : Bool := ((zbo q09 q0d q0a q0e q0b q0f q0h q0k q0w q13 q12 i q1b).getD default)
theorem zpl {q09 : Nat} {q0d : List Nat} {q0a : Nat} {q0e : List Nat} {q0b : Nat} {q0f : List Nat} {q0h : Nat} {q0k : List Nat} {q0w : Int} {q13 : Nat} {q12 : Nat} {i : Int} {q1b : Nat} {r : Bool} (h : zbo q09 q0d q0a q0e q0b q0f q0h q0k q0w q13 q12 i q1b = some r) : zh5 q09 q0d q0a q0e q0b q0f q0h q0k q0w q13 q12 i q1b = true ∧ zgn q09 q0d q0a q0e q0b q0f q0h q0k q0w q13 q12 i q1b = r := by
  unfold zh5 zgn
  rw [h]
  exact ⟨rfl, rfl⟩
noncomputable def zdp {R : Type} (x : Nat) (y : Nat) (k_ : Nat → Nat → Bool → Option R) : Option R := (grd (z51 x) (br (bnot (z4b x)) (k_ 0 0 Bool.false) (grd (z51 y) (br (bnot (z4b y)) (k_ 0 0 Bool.false) (k_ x y Bool.true)))))
noncomputable def zao (x : Nat) (y : Nat) : Option (Nat × Nat × Bool) := zdp x y (fun c0_ c1_ c2_ => some (c0_, c1_, c2_))
theorem zoh {R R' : Type} (o : Option R → Option R') (h0 : o none = none) (x : Nat) (y : Nat) (k_ : Nat → Nat → Bool → Option R) : zdp x y (fun c0_ c1_ c2_ => o (k_ c0_ c1_ c2_)) = o (zdp x y k_) := by
  unfold zdp
  repeat (first | refine grd_out h0 ?_ | refine br_out ?_ ?_ | rfl | exact h0.symm)
noncomputable def zif (x : Nat) (y : Nat) : Bool := (zao x y).isSome
noncomputable def zi7 (x : Nat) (y : Nat) : Nat := ((zao x y).getD default).1
noncomputable def zht (x : Nat) (y : Nat) : Nat := ((zao x y).getD default).2.1
noncomputable def zi6 (x : Nat) (y : Nat) : Bool := ((zao x y).getD default).2.2
theorem zr5 {x : Nat} {y : Nat} {r : Nat × Nat × Bool} (h : zao x y = some r) : zif x y = true ∧ zi7 x y = r.1 ∧ zht x y = r.2.1 ∧ zi6 x y = r.2.2 := by
  unfold zif zi7 zht zi6
  rw [h]
  exact ⟨rfl, rfl, rfl, rfl⟩
noncomputable def zbk {R : Type} (x : Nat) (k_ : Bool → Option R) : Option R := (grd (z51 x) (br (z4b x) (k_ (fcmp BinOp.gtr FloatKind.f32 x 0)) (k_ Bool.false)))
noncomputable def zbp (x : Nat) : Option (Bool) := zbk x (fun c0_ => some c0_)
theorem zne {R R' : Type} (o : Option R → Option R') (h0 : o none = none) (x : Nat) (k_ : Bool → Option R) : zbk x (fun c0_ => o (k_ c0_)) = o (zbk x k_) := by
  unfold zbk
  repeat (first | refine grd_out h0 ?_ | refine br_out ?_ ?_ | rfl | exact h0.symm)
noncomputable def zh6 (x : Nat) : Bool := (zbp x).isSome
noncomputable def zgj (x : Nat) : Bool := ((zbp x).getD default)
theorem zpe {x : Nat} {r : Bool} (h : zbp x = some r) : zh6 x = true ∧ zgj x = r := by
  unfold zh6 zgj
  rw [h]
  exact ⟨rfl, rfl⟩
noncomputable def z9g {R : Type} (x : Nat) (k_ : Bool → Option R) : Option R := (grd (z71 x) (k_ (bnot (z6m x))))
noncomputable def z9j (x : Nat) : Option (Bool) := z9g x (fun c0_ => some c0_)
theorem zks {R R' : Type} (o : Option R → Option R') (h0 : o none = none) (x : Nat) (k_ : Bool → Option R) : z9g x (fun c0_ => o (k_ c0_)) = o (z9g x k_) := by
  unfold z9g
  repeat (first | refine grd_out h0 ?_ | refine br_out ?_ ?_ | rfl | exact h0.symm)
noncomputable def zem (x : Nat) : Bool := (z9j x).isSome
noncomputable def zd4 (x : Nat) : Bool := ((z9j x).getD default)
theorem zni {x : Nat} {r : Bool} (h : z9j x = some r) : zem x = true ∧ zd4 x = r := by
  unfold zem zd4
  rw [h]
  exact ⟨rfl, rfl⟩
noncomputable def z8o {R : Type} (x : Nat) (k_ : Bool → Option R) : Option R := (grd (z71 x) (br (bnot (z6m x)) (k_ Bool.true) (k_ (fcmp BinOp.leq FloatKind.f32 x 0))))
noncomputable def z8p (x : Nat) : Option (Bool) := z8o x (fun c0_ => some c0_)
theorem zk2 {R R' : Type} (o : Option R → Option R') (h0 : o none = none) (x : Nat) (k_ : Bool → Option R) : z8o x (fun c0_ => o (k_ c0_)) = o (z8o x k_) := by
  unfold z8o
  repeat (first | refine grd_out h0 ?_ | refine br_out ?_ ?_ | rfl | exact h0.symm)
noncomputable def zc3 (x : Nat) : Bool := (z8p x).isSome
noncomputable def zbu (x : Nat) : Bool := ((z8p x).getD default)
theorem zlg {x : Nat} {r : Bool} (h : z8p x = some r) : zc3 x = true ∧ zbu x = r := by
  unfold zc3 zbu
  rw [h]
  exact ⟨rfl, rfl⟩
noncomputable def zb4 {R : Type} (q1z : Nat) (q21 : Nat) (q20 : Nat) (q2d : Nat) (q2h : Nat) (q2g : Nat) (k_ : Bool → Option R) : Option R := (grd (z78 (fcvV FloatKind.f32 FloatKind.f64 q1z) (fcvV FloatKind.f32 FloatKind.f64 q2d)) (br (bnot (z6q (fcvV FloatKind.f32 FloatKind.f64 q1z) (fcvV FloatKind.f32 FloatKind.f64 q2d))) (k_ Bool.false) (grd (z78 (fcvV FloatKind.f32 FloatKind.f64 q21) (fcvV FloatKind.f32 FloatKind.f64 q2h)) (br (bnot (z6q (fcvV FloatKind.f32 FloatKind.f64 q21) (fcvV FloatKind.f32 FloatKind.f64 q2h))) (k_ Bool.false) (grd (z78 (fcvV FloatKind.f32 FloatKind.f64 q20) (fcvV FloatKind.f32 FloatKind.f64 q2g)) (br (bnot (z6q (fcvV FloatKind.f32 FloatKind.f64 q20) (fcvV FloatKind.f32 FloatKind.f64 q2g))) (k_ Bool.false) (k_ Bool.true)))))))
noncomputable def zav (q1z : Nat) (q21 : Nat) (q20 : Nat) (q2d : Nat) (q2h : Nat) (q2g : Nat) : Option (Bool) := zb4 q1z q21 q20 q2d q2h q2g (fun c0_ => some c0_)
theorem zmu {R R' : Type} (o : Option R → Option R') (h0 : o none = none) (q1z : Nat) (q21 : Nat) (q20 : Nat) (q2d : Nat) (q2h : Nat) (q2g : Nat) (k_ : Bool → Option R) : zb4 q1z q21 q20 q2d q2h q2g (fun c0_ => o (k_ c0_)) = o (zb4 q1z q21 q20 q2d q2h q2g k_) := by
  unfold zb4
  repeat (first | refine grd_out h0 ?_ | refine br_out ?_ ?_ | rfl | exact h0.symm)
noncomputable def zgh (q1z : Nat) (q21 : Nat) (q20 : Nat) (q2d : Nat) (q2h : Nat) (q2g : Nat) : Bool := (zav q1z q21 q20 q2d q2h q2g).isSome
noncomputable def zfe (q1z : Nat) (q21 : Nat) (q20 : Nat) (q2d : Nat) (q2h : Nat) (q2g : Nat) : Bool := ((zav q1z q21 q20 q2d q2h q2g).getD default)
theorem zoy {q1z : Nat} {q21 : Nat} {q20 : Nat} {q2d : Nat} {q2h : Nat} {q2g : Nat} {r : Bool} (h : zav q1z q21 q20 q2d q2h q2g = some r) : zgh q1z q21 q20 q2d q2h q2g = true ∧ zfe q1z q21 q20 q2d q2h q2g = r := by
  unfold zgh zfe
  rw [h]
  exact ⟨rfl, rfl⟩
noncomputable def zbq {R : Type} (x : Nat) (k_ : Bool → Option R) : Option R := (grd (z51 x) (br (z4b x) (k_ (fcmp BinOp.geq FloatKind.f32 x 0)) (k_ Bool.false)))
noncomputable def zbs (x : Nat) : Option (Bool) := zbq x (fun c0_ => some c0_)
theorem znj {R R' : Type} (o : Option R → Option R') (h0 : o none = none) (x : Nat) (k_ : Bool → Option R) : zbq x (fun c0_ => o (k_ c0_)) = o (zbq x k_) := by
  unfold zbq
  repeat (first | refine grd_out h0 ?_ | refine br_out ?_ ?_ | rfl | exact h0.symm)
noncomputable def z91 (x : Nat) : Bool := (zbs x).isSome
noncomputable def z8j (x : Nat) : Bool := ((zbs x).getD default)
theorem zka {x : Nat} {r : Bool} (h : zbs x = some r) : z91 x = true ∧ z8j x = r := by
  unfold z91 z8j
  rw [h]
  exact ⟨rfl, rfl⟩
noncomputable def z6s {R : Type} (an : Nat) (q1y : Nat) (b0 : List Nat) (i : Int) (b1 : List Nat) (kn_ : Int → (List Nat) → Option R) (k0_ : Int → Bool → (List Nat) → Option R) : Option R := (br (ltI i (Int.ofNat an)) (grd (okIx i an) (grd (okIx i q1y) (kn_ (addI IntKind.i64 i 1) (sF b1 (ixO 0 i 1) (gF b0 (ixO 0 i 1)))))) (k0_ i (ltI i (Int.ofNat an)) b1))
theorem zjw {R R' : Type} (o : Option R → Option R') (h0 : o none = none) (an : Nat) (q1y : Nat) (b0 : List Nat) (i : Int) (b1 : List Nat) (kn_ : Int → (List Nat) → Option R) (k0_ : Int → Bool → (List Nat) → Option R) : z6s an q1y b0 i b1 (fun i' b1' => o (kn_ i' b1')) (fun c0_ c1_ c2_ => o (k0_ c0_ c1_ c2_)) = o (z6s an q1y b0 i b1 kn_ k0_) := by
  unfold z6s
  repeat (first | refine grd_out h0 ?_ | refine br_out ?_ ?_ | rfl | exact h0.symm)
noncomputable def z5j (an : Nat) (q1y : Nat) (b0 : List Nat) : Nat → Int → (List Nat) → Option ((Int × Bool × (List Nat)))
  | 0, _, _ => none
  | n + 1, i, b1 => z6s an q1y b0  i b1  (fun i' b1' => z5j an q1y b0 n i' b1') (fun c0_ c1_ c2_ => some (c0_, c1_, c2_))
theorem zh7 (an : Nat) (q1y : Nat) (b0 : List Nat) (n : Nat) (i : Int) (b1 : List Nat) : z5j an q1y b0 (n + 1) i b1 = z6s an q1y b0  i b1  (fun i' b1' => z5j an q1y b0 n i' b1') (fun c0_ c1_ c2_ => some (c0_, c1_, c2_)) := rfl
noncomputable def z9r (an : Nat) (q1y : Nat) (b0 : List Nat) (i : Int) (b1 : List Nat) : Bool := (z5j an q1y b0 big i b1).isSome
noncomputable def zdc (an : Nat) (q1y : Nat) (b0 : List Nat) (i : Int) (b1 : List Nat) : Int := ((z5j an q1y b0 big i b1).getD default).1
noncomputable def zdm (an : Nat) (q1y : Nat) (b0 : List Nat) (i : Int) (b1 : List Nat) : Bool := ((z5j an q1y b0 big i b1).getD default).2.1
noncomputable def z8t (an : Nat) (q1y : Nat) (b0 : List Nat) (i : Int) (b1 : List Nat) : List Nat := ((z5j an q1y b0 big i b1).getD default).2.2
theorem zkw {an : Nat} {q1y : Nat} {b0 : List Nat} {i : Int} {b1 : List Nat} {m : Nat} {r : Int × Bool × (List Nat)} (hm : m = big) (h : z5j an q1y b0 m i b1 = some r) : z9r an q1y b0 i b1 = true ∧ zdc an q1y b0 i b1 = r.1 ∧ zdm an q1y b0 i b1 = r.2.1 ∧ z8t an q1y b0 i b1 = r.2.2 := by
  subst hm
  unfold z9r zdc zdm z8t
  rw [h]
  exact ⟨rfl, rfl, rfl, rfl⟩
noncomputable def zcj {R : Type} (q0l : Nat) (q0q : List Nat) (q0m : Nat) (q0s : List Nat) (q0n : Nat) (q0r : List Nat) (q0z : Nat) (q14 : List Nat) (q1f : Int) (q1m : Nat) (q1n : Nat) (q1s : Int) (k_ : Int → Option R) : Option R := (grd (zgl q0l (pF q0q 0 (muN q0l 1)) q0m (pF q0s 0 (muN q0m 1)) q0n (pF q0r 0 (muN q0n 1)) q1s) (br (ltI (z8z q0l (pF q0q 0 (muN q0l 1)) q0m (pF q0s 0 (muN q0m 1)) q0n (pF q0r 0 (muN q0n 1)) q1s) 0) (k_ (Int.negSucc 0)) (grd (zfh q0z (pF q14 0 (muN q0z 3)) (z8z q0l (pF q0q 0 (muN q0l 1)) q0m (pF q0s 0 (muN q0m 1)) q0n (pF q0r 0 (muN q0n 1)) q1s)) (br (ltI (zbh q0z (pF q14 0 (muN q0z 3)) (z8z q0l (pF q0q 0 (muN q0l 1)) q0m (pF q0s 0 (muN q0m 1)) q0n (pF q0r 0 (muN q0n 1)) q1s)) 0) (k_ (Int.negSucc 0)) (k_ (zbh q0z (pF q14 0 (muN q0z 3)) (z8z q0l (pF q0q 0 (muN q0l 1)) q0m (pF q0s 0 (muN q0m 1)) q0n (pF q0r 0 (muN q0n 1)) q1s)))))))
noncomputable def zcf (q0l : Nat) (q0q : List Nat) (q0m : Nat) (q0s : List Nat) (q0n : Nat) (q0r : List Nat) (q0z : Nat) (q14 : List Nat) (q1f : Int) (q1m : Nat) (q1n : Nat) (q1s : Int) : Option (Int) := zcj q0l q0q q0m q0s q0n q0r q0z q14 q1f q1m q1n q1s (fun c0_ => some c0_)
theorem znt {R R' : Type} (o : Option R → Option R') (h0 : o none = none) (q0l : Nat) (q0q : List Nat) (q0m : Nat) (q0s : List Nat) (q0n : Nat) (q0r : List Nat) (q0z : Nat) (q14 : List Nat) (q1f : Int) (q1m : Nat) (q1n : Nat) (q1s : Int) (k_ : Int → Option R) : zcj q0l q0q q0m q0s q0n q0r q0z q14 q1f q1m q1n q1s (fun c0_ => o (k_ c0_)) = o (zcj q0l q0q q0m q0s q0n q0r q0z q14 q1f q1m q1n q1s k_) := by
  unfold zcj
  repeat (first | refine grd_out h0 ?_ | refine br_out ?_ ?_ | rfl | exact h0.symm)
noncomputable def zg0 (q0l : Nat) (q0q : List Nat) (q0m : Nat) (q0s : List Nat) (q0n : Nat) (q0r : List Nat) (q0z : Nat) (q14 : List Nat) (q1f : Int) (q1m : Nat) (q1n : Nat) (q1s : Int) : Bool := (zcf q0l q0q q0m q0s q0n q0r q0z q14 q1f q1m q1n q1s).isSome
noncomputable def zdy (q0l : Nat) (q0q : List Nat) (q0m : Nat) (q0s : List Nat) (q0n : Nat) (q0r : List Nat) (q0z : Nat) (q14 : List Nat) (q1f : Int) (q1m : Nat) (q1n : Nat) (q1s : Int) : Int := ((zcf q0l q0q q0m q0s q0n q0r q0z q14 q1f q1m q1n q1s).getD default)
theorem zq1 {q0l : Nat} {q0q : List Nat} {q0m : Nat} {q0s : List Nat} {q0n : Nat} {q0r : List Nat} {q0z : Nat} {q14 : List Nat} {q1f : Int} {q1m : Nat} {q1n : Nat} {q1s : Int} {r : Int} (h : zcf q0l q0q q0m q0s q0n q0r q0z q14 q1f q1m q1n q1s = some r) : zg0 q0l q0q q0m q0s q0n q0r q0z q14 q1f q1m q1n q1s = true ∧ zdy q0l q0q q0m q0s q0n q0r q0z q14 q1f q1m q1n q1s = r := by
  unfold zg0 zdy
  rw [h]
  exact ⟨rfl, rfl⟩
noncomputable def za1 {R : Type} (x : Nat) (k_ : Bool → Option R) : Option R := (grd (zfz x) (k_ (bnot (zej x))))
noncomputable def zai (x : Nat) : Option (Bool) := za1 x (fun c0_ => some c0_)
theorem zlz {R R' : Type} (o : Option R → Option R') (h0 : o none = none) (x : Nat) (k_ : Bool → Option R) : za1 x (fun c0_ => o (k_ c0_)) = o (za1 x k_) := by
  unfold za1
  repeat (first | refine grd_out h0 ?_ | refine br_out ?_ ?_ | rfl | exact h0.symm)
noncomputable def zf6 (x : Nat) : Bool := (zai x).isSome
noncomputable def zdz (x : Nat) : Bool := ((zai x).getD default)
theorem zo0 {x : Nat} {r : Bool} (h : zai x = some r) : zf6 x = true ∧ zdz x = r := by
  unfold zf6 zdz
  rw [h]
  exact ⟨rfl, rfl⟩
noncomputable def zfu {R : Type} (x : Nat) (k_ : Nat → Option R) : Option R := (grd (bnot (nanQ FloatKind.f64 x)) (k_ (fint Ieee.Toward.zero x)))
noncomputable def zfv (x : Nat) : Option (Nat) := zfu x (fun c0_ => some c0_)
theorem zpa {R R' : Type} (o : Option R → Option R') (h0 : o none = none) (x : Nat) (k_ : Nat → Option R) : zfu x (fun c0_ => o (k_ c0_)) = o (zfu x k_) := by
  unfold zfu
  repeat (first | refine grd_out h0 ?_ | refine br_out ?_ ?_ | rfl | exact h0.symm)
noncomputable def ziq (x : Nat) : Bool := (zfv x).isSome
noncomputable def zbw (x : Nat) : Nat := ((zfv x).getD default)
theorem zra {x : Nat} {r : Nat} (h : zfv x = some r) : ziq x = true ∧ zbw x = r := by
  unfold ziq zbw
  rw [h]
  exact ⟨rfl, rfl⟩
noncomputable def zag {R : Type} (a_n : Nat) (a : List Nat) (k_ : Nat → (List Nat) → Option R) : Option R := (grd (okMk (Int.ofNat a_n) (Int.ofNat a_n) 4) (grd (z9r a_n (toN (Int.ofNat a_n)) a 0 (rF (muN (toN (Int.ofNat a_n)) 1))) (k_ (toN (Int.ofNat a_n)) (z8t a_n (toN (Int.ofNat a_n)) a 0 (rF (muN (toN (Int.ofNat a_n)) 1))))))
noncomputable def z8y (a_n : Nat) (a : List Nat) : Option (Nat × (List Nat)) := zag a_n a (fun c0_ c1_ => some (c0_, c1_))
theorem zlc {R R' : Type} (o : Option R → Option R') (h0 : o none = none) (a_n : Nat) (a : List Nat) (k_ : Nat → (List Nat) → Option R) : zag a_n a (fun c0_ c1_ => o (k_ c0_ c1_)) = o (zag a_n a k_) := by
  unfold zag
  repeat (first | refine grd_out h0 ?_ | refine br_out ?_ ?_ | rfl | exact h0.symm)
noncomputable def zaf (a_n : Nat) (a : List Nat) : Bool := (z8y a_n a).isSome
noncomputable def z9h (a_n : Nat) (a : List Nat) : Nat := ((z8y a_n a).getD default).1
noncomputable def z9m (a_n : Nat) (a : List Nat) : List Nat := ((z8y a_n a).getD default).2
theorem zhh {a_n : Nat} {a : List Nat} {r : Nat × (List Nat)} (h : z8y a_n a = some r) : zaf a_n a = true ∧ z9h a_n a = r.1 ∧ z9m a_n a = r.2 := by
  unfold zaf z9h z9m
  rw [h]
  exact ⟨rfl, rfl, rfl⟩
noncomputable def z6v {R : Type} (an : Nat) (q1y : Nat) (b0 : List Nat) (i : Int) (b1 : List Nat) (kn_ : Int → (List Nat) → Option R) (k0_ : Int → Bool → (List Nat) → Option R) : Option R := (br (ltI i (Int.ofNat an)) (grd (okIx i an) (grd (zij (gF b0 (ixO 0 i 3)) (gF b0 (Nat.succ (ixO 0 i 3))) (gF b0 (Nat.succ (Nat.succ (ixO 0 i 3))))) (grd (okIx i q1y) (kn_ (addI IntKind.i64 i 1) (sF (sF (sF b1 (ixO 0 i 3) (gF b0 (ixO 0 i 3))) (Nat.succ (ixO 0 i 3)) (gF b0 (Nat.succ (ixO 0 i 3)))) (Nat.succ (Nat.succ (ixO 0 i 3))) (gF b0 (Nat.succ (Nat.succ (ixO 0 i 3))))))))) (k0_ i (ltI i (Int.ofNat an)) b1))
theorem zjp {R R' : Type} (o : Option R → Option R') (h0 : o none = none) (an : Nat) (q1y : Nat) (b0 : List Nat) (i : Int) (b1 : List Nat) (kn_ : Int → (List Nat) → Option R) (k0_ : Int → Bool → (List Nat) → Option R) : z6v an q1y b0 i b1 (fun i' b1' => o (kn_ i' b1')) (fun c0_ c1_ c2_ => o (k0_ c0_ c1_ c2_)) = o (z6v an q1y b0 i b1 kn_ k0_) := by
  unfold z6v
  repeat (first | refine grd_out h0 ?_ | refine br_out ?_ ?_ | rfl | exact h0.symm)
noncomputable def z3h (an : Nat) (q1y : Nat) (b0 : List Nat) : Nat → Int → (List Nat) → Option ((Int × Bool × (List Nat)))
  | 0, _, _ => none
  | n + 1, i, b1 => z6v an q1y b0  i b1  (fun i' b1' => z3h an q1y b0 n i' b1') (fun c0_ c1_ c2_ => some (c0_, c1_, c2_))
theorem zhb (an : Nat) (q1y : Nat) (b0 : List Nat) (n : Nat) (i : Int) (b1 : List Nat) : z3h an q1y b0 (n + 1) i b1 = z6v an q1y b0  i b1  (fun i' b1' => z3h an q1y b0 n i' b1') (fun c0_ c1_ c2_ => some (c0_, c1_, c2_)) := rfl
noncomputable def z9w (an : Nat) (q1y : Nat) (b0 : List Nat) (i : Int) (b1 : List Nat) : Bool := (z3h an q1y b0 big i b1).isSome
noncomputable def zdd (an : Nat) (q1y : Nat) (b0 : List Nat) (i : Int) (b1 : List Nat) : Int := ((z3h an q1y b0 big i b1).getD default).1
noncomputable def zdb (an : Nat) (q1y : Nat) (b0 : List Nat) (i : Int) (b1 : List Nat) : Bool := ((z3h an q1y b0 big i b1).getD default).2.1
noncomputable def z8s (an : Nat) (q1y : Nat) (b0 : List Nat) (i : Int) (b1 : List Nat) : List Nat := ((z3h an q1y b0 big i b1).getD default).2.2
theorem zku {an : Nat} {q1y : Nat} {b0 : List Nat} {i : Int} {b1 : List Nat} {m : Nat} {r : Int × Bool × (List Nat)} (hm : m = big) (h : z3h an q1y b0 m i b1 = some r) : z9w an q1y b0 i b1 = true ∧ zdd an q1y b0 i b1 = r.1 ∧ zdb an q1y b0 i b1 = r.2.1 ∧ z8s an q1y b0 i b1 = r.2.2 := by
  subst hm
  unfold z9w zdd zdb z8s
  rw [h]
  exact ⟨rfl, rfl, rfl, rfl⟩
noncomputable def z6w {R : Type} (an : Nat) (bn : Nat) (b0 : List Nat) (b1 : List Nat) (i : Int) (kn_ : Int → Option R) (k0_ : Unit → Option R) (k1_ : Int → Bool → Option R) : Option R := (br (ltI i (Int.ofNat an)) (grd (okIx i an) (grd (okIx i bn) (grd (z78 (fcvV FloatKind.f32 FloatKind.f64 (gF b0 (ixO 0 i 1))) (fcvV FloatKind.f32 FloatKind.f64 (gF b1 (ixO 0 i 1)))) (br (bnot (z6q (fcvV FloatKind.f32 FloatKind.f64 (gF b0 (ixO 0 i 1))) (fcvV FloatKind.f32 FloatKind.f64 (gF b1 (ixO 0 i 1))))) (k0_ ()) (kn_ (addI IntKind.i64 i 1)))))) (k1_ i (ltI i (Int.ofNat an))))
theorem zk0 {R R' : Type} (o : Option R → Option R') (h0 : o none = none) (an : Nat) (bn : Nat) (b0 : List Nat) (b1 : List Nat) (i : Int) (kn_ : Int → Option R) (k0_ : Unit → Option R) (k1_ : Int → Bool → Option R) : z6w an bn b0 b1 i (fun i' => o (kn_ i')) (fun _ => o (k0_ ())) (fun c0_ c1_ => o (k1_ c0_ c1_)) = o (z6w an bn b0 b1 i kn_ k0_ k1_) := by
  unfold z6w
  repeat (first | refine grd_out h0 ?_ | refine br_out ?_ ?_ | rfl | exact h0.symm)
noncomputable def z5l (an : Nat) (bn : Nat) (b0 : List Nat) (b1 : List Nat) : Nat → Int → Option ((Unit) ⊕ (Int × Bool))
  | 0, _ => none
  | n + 1, i => z6w an bn b0 b1  i  (fun i' => z5l an bn b0 b1 n i') (fun _ => some (Sum.inl ())) (fun c0_ c1_ => some (Sum.inr (c0_, c1_)))
theorem zhc (an : Nat) (bn : Nat) (b0 : List Nat) (b1 : List Nat) (n : Nat) (i : Int) : z5l an bn b0 b1 (n + 1) i = z6w an bn b0 b1  i  (fun i' => z5l an bn b0 b1 n i') (fun _ => some (Sum.inl ())) (fun c0_ c1_ => some (Sum.inr (c0_, c1_))) := rfl
noncomputable def zc0 (an : Nat) (bn : Nat) (b0 : List Nat) (b1 : List Nat) (i : Int) : Bool := (z5l an bn b0 b1 big i).isSome
noncomputable def zbm (an : Nat) (bn : Nat) (b0 : List Nat) (b1 : List Nat) (i : Int) : Bool := oL (z5l an bn b0 b1 big i)
noncomputable def zd9 (an : Nat) (bn : Nat) (b0 : List Nat) (b1 : List Nat) (i : Int) : Int := ((tR (z5l an bn b0 b1 big i)).getD default).1
noncomputable def zd8 (an : Nat) (bn : Nat) (b0 : List Nat) (b1 : List Nat) (i : Int) : Bool := ((tR (z5l an bn b0 b1 big i)).getD default).2
theorem zkx {an : Nat} {bn : Nat} {b0 : List Nat} {b1 : List Nat} {i : Int} {m : Nat} {r : Int × Bool} (hm : m = big) (h : z5l an bn b0 b1 m i = some (Sum.inr r)) : zc0 an bn b0 b1 i = true ∧ zbm an bn b0 b1 i = false ∧ zd9 an bn b0 b1 i = r.1 ∧ zd8 an bn b0 b1 i = r.2 := by
  subst hm
  unfold zc0 zbm zd9 zd8
  rw [h]
  exact ⟨rfl, rfl, rfl, rfl⟩
noncomputable def z6a {R : Type} (t6 : Nat) (t7 : Nat) (t8 : Int) (kn_ : Nat → Int → Option R) (k0_ : Nat → Int → Bool → Option R) : Option R := (br (leI 1 t8) (kn_ (fop BinOp.sub FloatKind.f64 4607182418800017408 (fop BinOp.quo FloatKind.f64 (fop BinOp.mul FloatKind.f64 t6 t7) (fOI FloatKind.f64 (mulI IntKind.i64 (mulI IntKind.i64 2 t8) (addI IntKind.i64 (mulI IntKind.i64 2 t8) 1))))) (subI IntKind.i64 t8 1)) (k0_ t7 t8 (leI 1 t8)))
theorem zj6 {R R' : Type} (o : Option R → Option R') (h0 : o none = none) (t6 : Nat) (t7 : Nat) (t8 : Int) (kn_ : Nat → Int → Option R) (k0_ : Nat → Int → Bool → Option R) : z6a t6 t7 t8 (fun t7' t8' => o (kn_ t7' t8')) (fun c0_ c1_ c2_ => o (k0_ c0_ c1_ c2_)) = o (z6a t6 t7 t8 kn_ k0_) := by
  unfold z6a
  repeat (first | refine grd_out h0 ?_ | refine br_out ?_ ?_ | rfl | exact h0.symm)
noncomputable def z39 (t6 : Nat) : Nat → Nat → Int → Option ((Nat × Int × Bool))
  | 0, _, _ => none
  | n + 1, t7, t8 => z6a t6  t7 t8  (fun t7' t8' => z39 t6 n t7' t8') (fun c0_ c1_ c2_ => some (c0_, c1_, c2_))
theorem zge (t6 : Nat) (n : Nat) (t7 : Nat) (t8 : Int) : z39 t6 (n + 1) t7 t8 = z6a t6  t7 t8  (fun t7' t8' => z39 t6 n t7' t8') (fun c0_ c1_ c2_ => some (c0_, c1_, c2_)) := rfl
noncomputable def z4m (t6 : Nat) (t7 : Nat) (t8 : Int) : Bool := (z39 t6 big t7 t8).isSome
noncomputable def z0y (t6 : Nat) (t7 : Nat) (t8 : Int) : Nat := ((z39 t6 big t7 t8).getD default).1
noncomputable def zbz (t6 : Nat) (t7 : Nat) (t8 : Int) : Int := ((z39 t6 big t7 t8).getD default).2.1
noncomputable def zc7 (t6 : Nat) (t7 : Nat) (t8 : Int) : Bool := ((z39 t6 big t7 t8).getD default).2.2
theorem zjt {t6 : Nat} {t7 : Nat} {t8 : Int} {m : Nat} {r : Nat × Int × Bool} (hm : m = big) (h : z39 t6 m t7 t8 = some r) : z4m t6 t7 t8 = true ∧ z0y t6 t7 t8 = r.1 ∧ zbz t6 t7 t8 = r.2.1 ∧ zc7 t6 t7 t8 = r.2.2 := by
  subst hm
  unfold z4m z0y zbz zc7
  rw [h]
  exact ⟨rfl, rfl, rfl, rfl⟩
noncomputable def za7 {R : Type} (q1x : Nat) (k_ : Nat → Option R) : Option R := (grd (ziq q1x) (br (fcmp BinOp.eql FloatKind.f64 (zbw q1x) 0) (br (fcmp BinOp.lss FloatKind.f64 (fop BinOp.sub FloatKind.f64 q1x 0) 0) (k_ (fop BinOp.add FloatKind.f64 (fop BinOp.sub FloatKind.f64 q1x 0) 4607182418800017408)) (k_ (fop BinOp.sub FloatKind.f64 q1x 0))) (br (fcmp BinOp.lss FloatKind.f64 (fop BinOp.sub FloatKind.f64 q1x (zbw q1x)) 0) (k_ (fop BinOp.add FloatKind.f64 (fop BinOp.sub FloatKind.f64 q1x (zbw q1x)) 4607182418800017408)) (k_ (fop BinOp.sub FloatKind.f64 q1x (zbw q1x))))))
noncomputable def zal (q1x : Nat) : Option (Nat) := za7 q1x (fun c0_ => some c0_)
theorem zlb {R R' : Type} (o : Option R → Option R') (h0 : o none = none) (q1x : Nat) (k_ : Nat → Option R) : za7 q1x (fun c0_ => o (k_ c0_)) = o (za7 q1x k_) := by
  unfold za7
  repeat (first | refine grd_out h0 ?_ | refine br_out ?_ ?_ | rfl | exact h0.symm)
noncomputable def zf1 (q1x : Nat) : Bool := (zal q1x).isSome
noncomputable def z11 (q1x : Nat) : Nat := ((zal q1x).getD default)
theorem zno {q1x : Nat} {r : Nat} (h : zal q1x = some r) : zf1 q1x = true ∧ z11 q1x = r := by
  unfold zf1 z11
  rw [h]
  exact ⟨rfl, rfl⟩
noncomputable def zba {R : Type} (q11 : Nat) (q1d : List Nat) (q16 : Nat) (q1g : List Nat) (q17 : Nat) (q1h : List Nat) (k_ : Nat → Nat → Nat → (List Nat) → (List Nat) → (List Nat) → Option R) : Option R := (grd (zaf q11 (pF q1d 0 (muN q11 1))) (grd (zaf q16 (pF q1g 0 (muN q16 1))) (grd (zaf q17 (pF q1h 0 (muN q17 1))) (k_ (z9h q11 (pF q1d 0 (muN q11 1))) (z9h q16 (pF q1g 0 (muN q16 1))) (z9h q17 (pF q1h 0 (muN q17 1))) (z9m q11 (pF q1d 0 (muN q11 1))) (z9m q16 (pF q1g 0 (muN q16 1))) (z9m q17 (pF q1h 0 (muN q17 1)))))))
noncomputable def z75 (q11 : Nat) (q1d : List Nat) (q16 : Nat) (q1g : List Nat) (q17 : Nat) (q1h : List Nat) : Option (Nat × Nat × Nat × (List Nat) × (List Nat) × (List Nat)) := zba q11 q1d q16 q1g q17 q1h (fun c0_ c1_ c2_ c3_ c4_ c5_ => some (c0_, c1_, c2_, c3_, c4_, c5_))
theorem zm9 {R R' : Type} (o : Option R → Option R') (h0 : o none = none) (q11 : Nat) (q1d : List Nat) (q16 : Nat) (q1g : List Nat) (q17 : Nat) (q1h : List Nat) (k_ : Nat → Nat → Nat → (List Nat) → (List Nat) → (List Nat) → Option R) : zba q11 q1d q16 q1g q17 q1h (fun c0_ c1_ c2_ c3_ c4_ c5_ => o (k_ c0_ c1_ c2_ c3_ c4_ c5_)) = o (zba q11 q1d q16 q1g q17 q1h k_) := by
  unfold zba
  repeat (first | refine grd_out h0 ?_ | refine br_out ?_ ?_ | rfl | exact h0.symm)
noncomputable def zgg (q11 : Nat) (q1d : List Nat) (q16 : Nat) (q1g : List Nat) (q17 : Nat) (q1h : List Nat) : Bool := (z75 q11 q1d q16 q1g q17 q1h).isSome
noncomputable def zf7 (q11 : Nat) (q1d : List Nat) (q16 : Nat) (q1g : List Nat) (q17 : Nat) (q1h : List Nat) : Nat := ((z75 q11 q1d q16 q1g q17 q1h).getD default).1
noncomputable def zf5 (q11 : Nat) (q1d : List Nat) (q16 : Nat) (q1g : List Nat) (q17 : Nat) (q1h : List Nat) : Nat := ((z75 q11 q1d q16 q1g q17 q1h).getD default).2.1
noncomputable def zf3 (q11 : Nat) (q1d : List Nat) (q16 : Nat) (q1g : List Nat) (q17 : Nat) (q1h : List Nat) : Nat := ((z75 q11 q1d q16 q1g q17 q1h).getD default).2.2.1
noncomputable def zf8 (q11 : Nat) (q1d : List Nat) (q16 : Nat) (q1g : List Nat) (q17 : Nat) (q1h : List Nat) : List Nat := ((z75 q11 q1d q16 q1g q17 q1h).getD default).2.2.2.1
noncomputable def zf4 (q11 : Nat) (q1d : List Nat) (q16 : Nat) (q1g : List Nat) (q17 : Nat) (q1h : List Nat) : List Nat := ((z75 q11 q1d q16 q1g q17 q1h).getD default).2.2.2.2.1
noncomputable def zfg (q11 : Nat) (q1d : List Nat) (q16 : Nat) (q1g : List Nat) (q17 : Nat) (q1h : List Nat) : List Nat := ((z75 q11 q1d q16 q1g q17 q1h).getD default).2.2.2.2.2
theorem zp5 {q11 : Nat} {q1d : List Nat} {q16 : Nat} {q1g : List Nat} {q17 : Nat} {q1h : List Nat} {r : Nat × Nat × Nat × (List Nat) × (List Nat) × (List Nat)} (h : z75 q11 q1d q16 q1g q17 q1h = some r) : zgg q11 q1d q16 q1g q17 q1h = true ∧ zf7 q11 q1d q16 q1g q17 q1h = r.1 ∧ zf5 q11 q1d q16 q1g q17 q1h = r.2.1 ∧ zf3 q11 q1d q16 q1g q17 q1h = r.2.2.1 ∧ zf8 q11 q1d q16 q1g q17 q1h = r.2.2.2.1 ∧ zf4 q11 q1d q16 q1g q17 q1h = r.2.2.2.2.1 ∧ zfg q11 q1d q16 q1g q17 q1h = r.2.2.2.2.2 := by
  unfold zgg zf7 zf5 zf3 zf8 zf4 zfg
  rw [h]
  exact ⟨rfl, rfl, rfl, rfl, rfl, rfl, rfl⟩
noncomputable def zak {R : Type} (a_n : Nat) (a : List Nat) (k_ : Nat → (List Nat) → Option R) : Option R := (grd (okMk (Int.ofNat a_n) (Int.ofNat a_n) 12) (grd (z9w a_n (toN (Int.ofNat a_n)) a 0 (rF (muN (toN (Int.ofNat a_n)) 3))) (k_ (toN (Int.ofNat a_n)) (z8s a_n (toN (Int.ofNat a_n)) a 0 (rF (muN (toN (Int.ofNat a_n)) 3))))))
noncomputable def z8x (a_n : Nat) (a : List Nat) : Option (Nat × (List Nat)) := zak a_n a (fun c0_ c1_ => some (c0_, c1_))
theorem zll {R R' : Type} (o : Option R → Option R') (h0 : o none = none) (a_n : Nat) (a : List Nat) (k_ : Nat → (List Nat) → Option R) : zak a_n a (fun c0_ c1_ => o (k_ c0_ c1_)) = o (zak a_n a k_) := by
  unfold zak
  repeat (first | refine grd_out h0 ?_ | refine br_out ?_ ?_ | rfl | exact h0.symm)
noncomputable def zfa (a_n : Nat) (a : List Nat) : Bool := (z8x a_n a).isSome
noncomputable def ze2 (a_n : Nat) (a : List Nat) : Nat := ((z8x a_n a).getD default).1
noncomputable def ze5 (a_n : Nat) (a : List Nat) : List Nat := ((z8x a_n a).getD default).2
theorem zob {a_n : Nat} {a : List Nat} {r : Nat × (List Nat)} (h : z8x a_n a = some r) : zfa a_n a = true ∧ ze2 a_n a = r.1 ∧ ze5 a_n a = r.2 := by
  unfold zfa ze2 ze5
  rw [h]
  exact ⟨rfl, rfl, rfl⟩
noncomputable def z9z {R : Type} (a_n : Nat) (a : List Nat) (b_n : Nat) (b : List Nat) (k_ : Bool → Option R) : Option R := (br (neI (Int.ofNat a_n) (Int.ofNat b_n)) (k_ Bool.false) (grd (zc0 a_n b_n a b 0) (br (zbm a_n b_n a b 0) (k_ Bool.false) (k_ Bool.true))))
noncomputable def z9y (a_n : Nat) (a : List Nat) (b_n : Nat) (b : List Nat) : Option (Bool) := z9z a_n a b_n b (fun c0_ => some c0_)
theorem zlt {R R' : Type} (o : Option R → Option R') (h0 : o none = none) (a_n : Nat) (a : List Nat) (b_n : Nat) (b : List Nat) (k_ : Bool → Option R) : z9z a_n a b_n b (fun c0_ => o (k_ c0_)) = o (z9z a_n a b_n b k_) := by
  unfold z9z
  repeat (first | refine grd_out h0 ?_ | refine br_out ?_ ?_ | rfl | exact h0.symm)
noncomputable def zah (a_n : Nat) (a : List Nat) (b_n : Nat) (b : List Nat) : Bool := (z9y a_n a b_n b).isSome
noncomputable def z9k (a_n : Nat) (a : List Nat) (b_n : Nat) (b : List Nat) : Bool := ((z9y a_n a b_n b).getD default)
theorem zhi {a_n : Nat} {a : List Nat} {b_n : Nat} {b : List Nat} {r : Bool} (h : z9y a_n a b_n b = some r) : zah a_n a b_n b = true ∧ z9k a_n a b_n b = r := by
  unfold zah z9k
  rw [h]
  exact ⟨rfl, rfl⟩
noncomputable def z7x {R : Type} (q10 : Nat) (k_ : Nat → Option R) : Option R := (br (fcmp BinOp.neq FloatKind.f64 (fop BinOp.sub FloatKind.f64 q10 q10) 0) (grd zio (k_ zgz)) (br (fcmp BinOp.geq FloatKind.f64 q10 4841369599423283200) (k_ 0) (br (fcmp BinOp.leq FloatKind.f64 q10 14064741636278059008) (k_ 0) (grd (f2iB FloatKind.f64 q10 IntKind.i64) (br (fcmp BinOp.lss FloatKind.f64 (fop BinOp.sub FloatKind.f64 q10 (fOI FloatKind.f64 (f2iV FloatKind.f64 q10 IntKind.i64))) 0) (br (fcmp BinOp.geq FloatKind.f64 (fop BinOp.add FloatKind.f64 (fop BinOp.sub FloatKind.f64 q10 (fOI FloatKind.f64 (f2iV FloatKind.f64 q10 IntKind.i64))) 4607182418800017408) 4602678819172646912) (br (fcmp BinOp.gtr FloatKind.f64 (fop BinOp.sub FloatKind.f64 (fop BinOp.add FloatKind.f64 (fop BinOp.sub FloatKind.f64 q10 (fOI FloatKind.f64 (f2iV FloatKind.f64 q10 IntKind.i64))) 4607182418800017408) 4602678819172646912) 4598175219545276416) (grd (z4m (fop BinOp.mul FloatKind.f64 (fop BinOp.mul FloatKind.f64 (fop BinOp.sub FloatKind.f64 4602678819172646912 (fop BinOp.sub FloatKind.f64 (fop BinOp.add FloatKind.f64 (fop BinOp.sub FloatKind.f64 q10 (fOI FloatKind.f64 (f2iV FloatKind.f64 q10 IntKind.i64))) 4607182418800017408) 4602678819172646912)) 4618760256179416344) (fop BinOp.mul FloatKind.f64 (fop BinOp.sub FloatKind.f64 4602678819172646912 (fop BinOp.sub FloatKind.f64 (fop BinOp.add FloatKind.f64 (fop BinOp.sub FloatKind.f64 q10 (fOI FloatKind.f64 (f2iV FloatKind.f64 q10 IntKind.i64))) 4607182418800017408) 4602678819172646912)) 4618760256179416344)) 4607182418800017408 8) (br (fcmp BinOp.geq FloatKind.f64 (fop BinOp.add FloatKind.f64 (fop BinOp.sub FloatKind.f64 q10 (fOI FloatKind.f64 (f2iV FloatKind.f64 q10 IntKind.i64))) 4607182418800017408) 4602678819172646912) (k_ (fneg FloatKind.f64 (fop BinOp.mul FloatKind.f64 (fop BinOp.mul FloatKind.f64 (fop BinOp.sub FloatKind.f64 4602678819172646912 (fop BinOp.sub FloatKind.f64 (fop BinOp.add FloatKind.f64 (fop BinOp.sub FloatKind.f64 q10 (fOI FloatKind.f64 (f2iV FloatKind.f64 q10 IntKind.i64))) 4607182418800017408) 4602678819172646912)) 4618760256179416344) (z0y (fop BinOp.mul FloatKind.f64 (fop BinOp.mul FloatKind.f64 (fop BinOp.sub FloatKind.f64 4602678819172646912 (fop BinOp.sub FloatKind.f64 (fop BinOp.add FloatKind.f64 (fop BinOp.sub FloatKind.f64 q10 (fOI FloatKind.f64 (f2iV FloatKind.f64 q10 IntKind.i64))) 4607182418800017408) 4602678819172646912)) 4618760256179416344) (fop BinOp.mul FloatKind.f64 (fop BinOp.sub FloatKind.f64 4602678819172646912 (fop BinOp.sub FloatKind.f64 (fop BinOp.add FloatKind.f64 (fop BinOp.sub FloatKind.f64 q10 (fOI FloatKind.f64 (f2iV FloatKind.f64 q10 IntKind.i64))) 4607182418800017408) 4602678819172646912)) 4618760256179416344)) 4607182418800017408 8)))) (k_ (fop BinOp.mul FloatKind.f64 (fop BinOp.mul FloatKind.f64 (fop BinOp.sub FloatKind.f64 4602678819172646912 (fop BinOp.sub FloatKind.f64 (fop BinOp.add FloatKind.f64 (fop BinOp.sub FloatKind.f64 q10 (fOI FloatKind.f64 (f2iV FloatKind.f64 q10 IntKind.i64))) 4607182418800017408) 4602678819172646912)) 4618760256179416344) (z0y (fop BinOp.mul FloatKind.f64 (fop BinOp.mul FloatKind.f64 (fop BinOp.sub FloatKind.f64 4602678819172646912 (fop BinOp.sub FloatKind.f64 (fop BinOp.add FloatKind.f64 (fop BinOp.sub FloatKind.f64 q10 (fOI FloatKind.f64 (f2iV FloatKind.f64 q10 IntKind.i64))) 4607182418800017408) 4602678819172646912)) 4618760256179416344) (fop BinOp.mul FloatKind.f64 (fop BinOp.sub FloatKind.f64 4602678819172646912 (fop BinOp.sub FloatKind.f64 (fop BinOp.add FloatKind.f64 (fop BinOp.sub FloatKind.f64 q10 (fOI FloatKind.f64 (f2iV FloatKind.f64 q10 IntKind.i64))) 4607182418800017408) 4602678819172646912)) 4618760256179416344)) 4607182418800017408 8))))) (grd (z4m (fop BinOp.mul FloatKind.f64 (fop BinOp.mul FloatKind.f64 (fop BinOp.sub FloatKind.f64 (fop BinOp.add FloatKind.f64 (fop BinOp.sub FloatKind.f64 q10 (fOI FloatKind.f64 (f2iV FloatKind.f64 q10 IntKind.i64))) 4607182418800017408) 4602678819172646912) 4618760256179416344) (fop BinOp.mul FloatKind.f64 (fop BinOp.sub FloatKind.f64 (fop BinOp.add FloatKind.f64 (fop BinOp.sub FloatKind.f64 q10 (fOI FloatKind.f64 (f2iV FloatKind.f64 q10 IntKind.i64))) 4607182418800017408) 4602678819172646912) 4618760256179416344)) 4607182418800017408 8) (br (fcmp BinOp.geq FloatKind.f64 (fop BinOp.add FloatKind.f64 (fop BinOp.sub FloatKind.f64 q10 (fOI FloatKind.f64 (f2iV FloatKind.f64 q10 IntKind.i64))) 4607182418800017408) 4602678819172646912) (k_ (fneg FloatKind.f64 (fop BinOp.mul FloatKind.f64 (fop BinOp.mul FloatKind.f64 (fop BinOp.sub FloatKind.f64 (fop BinOp.add FloatKind.f64 (fop BinOp.sub FloatKind.f64 q10 (fOI FloatKind.f64 (f2iV FloatKind.f64 q10 IntKind.i64))) 4607182418800017408) 4602678819172646912) 4618760256179416344) (z0y (fop BinOp.mul FloatKind.f64 (fop BinOp.mul FloatKind.f64 (fop BinOp.sub FloatKind.f64 (fop BinOp.add FloatKind.f64 (fop BinOp.sub FloatKind.f64 q10 (fOI FloatKind.f64 (f2iV FloatKind.f64 q10 IntKind.i64))) 4607182418800017408) 4602678819172646912) 4618760256179416344) (fop BinOp.mul FloatKind.f64 (fop BinOp.sub FloatKind.f64 (fop BinOp.add FloatKind.f64 (fop BinOp.sub FloatKind.f64 q10 (fOI FloatKind.f64 (f2iV FloatKind.f64 q10 IntKind.i64))) 4607182418800017408) 4602678819172646912) 4618760256179416344)) 4607182418800017408 8)))) (k_ (fop BinOp.mul FloatKind.f64 (fop BinOp.mul FloatKind.f64 (fop BinOp.sub FloatKind.f64 (fop BinOp.add FloatKind.f64 (fop BinOp.sub FloatKind.f64 q10 (fOI FloatKind.f64 (f2iV FloatKind.f64 q10 IntKind.i64))) 4607182418800017408) 4602678819172646912) 4618760256179416344) (z0y (fop BinOp.mul FloatKind.f64 (fop BinOp.mul FloatKind.f64 (fop BinOp.sub FloatKind.f64 (fop BinOp.add FloatKind.f64 (fop BinOp.sub FloatKind.f64 q10 (fOI FloatKind.f64 (f2iV FloatKind.f64 q10 IntKind.i64))) 4607182418800017408) 4602678819172646912) 4618760256179416344) (fop BinOp.mul FloatKind.f64 (fop BinOp.sub FloatKind.f64 (fop BinOp.add FloatKind.f64 (fop BinOp.sub FloatKind.f64 q10 (fOI FloatKind.f64 (f2iV FloatKind.f64 q10 IntKind.i64))) 4607182418800017408) 4602678819172646912) 4618760256179416344)) 4607182418800017408 8)))))) (br (fcmp BinOp.gtr FloatKind.f64 (fop BinOp.add FloatKind.f64 (fop BinOp.sub FloatKind.f64 q10 (fOI FloatKind.f64 (f2iV FloatKind.f64 q10 IntKind.i64))) 4607182418800017408) 4598175219545276416) (grd (z4m (fop BinOp.mul FloatKind.f64 (fop BinOp.mul FloatKind.f64 (fop BinOp.sub FloatKind.f64 4602678819172646912 (fop BinOp.add FloatKind.f64 (fop BinOp.sub FloatKind.f64 q10 (fOI FloatKind.f64 (f2iV FloatKind.f64 q10 IntKind.i64))) 4607182418800017408)) 4618760256179416344) (fop BinOp.mul FloatKind.f64 (fop BinOp.sub FloatKind.f64 4602678819172646912 (fop BinOp.add FloatKind.f64 (fop BinOp.sub FloatKind.f64 q10 (fOI FloatKind.f64 (f2iV FloatKind.f64 q10 IntKind.i64))) 4607182418800017408)) 4618760256179416344)) 4607182418800017408 8) (br (fcmp BinOp.geq FloatKind.f64 (fop BinOp.add FloatKind.f64 (fop BinOp.sub FloatKind.f64 q10 (fOI FloatKind.f64 (f2iV FloatKind.f64 q10 IntKind.i64))) 4607182418800017408) 4602678819172646912) (k_ (fneg FloatKind.f64 (fop BinOp.mul FloatKind.f64 (fop BinOp.mul FloatKind.f64 (fop BinOp.sub FloatKind.f64 4602678819172646912 (fop BinOp.add FloatKind.f64 (fop BinOp.sub FloatKind.f64 q10 (fOI FloatKind.f64 (f2iV FloatKind.f64 q10 IntKind.i64))) 4607182418800017408)) 4618760256179416344) (z0y (fop BinOp.mul FloatKind.f64 (fop BinOp.mul FloatKind.f64 (fop BinOp.sub FloatKind.f64 4602678819172646912 (fop BinOp.add FloatKind.f64 (fop BinOp.sub FloatKind.f64 q10 (fOI FloatKind.f64 (f2iV FloatKind.f64 q10 IntKind.i64))) 4607182418800017408)) 4618760256179416344) (fop BinOp.mul FloatKind.f64 (fop BinOp.sub FloatKind.f64 4602678819172646912 (fop BinOp.add FloatKind.f64 (fop BinOp.sub FloatKind.f64 q10 (fOI FloatKind.f64 (f2iV FloatKind.f64 q10 IntKind.i64))) 4607182418800017408)) 4618760256179416344)) 4607182418800017408 8)))) (k_ (fop BinOp.mul FloatKind.f64 (fop BinOp.mul FloatKind.f64 (fop BinOp.sub FloatKind.f64 4602678819172646912 (fop BinOp.add FloatKind.f64 (fop BinOp.sub FloatKind.f64 q10 (fOI FloatKind.f64 (f2iV FloatKind.f64 q10 IntKind.i64))) 4607182418800017408)) 4618760256179416344) (z0y (fop BinOp.mul FloatKind.f64 (fop BinOp.mul FloatKind.f64 (fop BinOp.sub FloatKind.f64 4602678819172646912 (fop BinOp.add FloatKind.f64 (fop BinOp.sub FloatKind.f64 q10 (fOI FloatKind.f64 (f2iV FloatKind.f64 q10 IntKind.i64))) 4607182418800017408)) 4618760256179416344) (fop BinOp.mul FloatKind.f64 (fop BinOp.sub FloatKind.f64 4602678819172646912 (fop BinOp.add FloatKind.f64 (fop BinOp.sub FloatKind.f64 q10 (fOI FloatKind.f64 (f2iV FloatKind.f64 q10 IntKind.i64))) 4607182418800017408)) 4618760256179416344)) 4607182418800017408 8))))) (grd (z4m (fop BinOp.mul FloatKind.f64 (fop BinOp.mul FloatKind.f64 (fop BinOp.add FloatKind.f64 (fop BinOp.sub FloatKind.f64 q10 (fOI FloatKind.f64 (f2iV FloatKind.f64 q10 IntKind.i64))) 4607182418800017408) 4618760256179416344) (fop BinOp.mul FloatKind.f64 (fop BinOp.add FloatKind.f64 (fop BinOp.sub FloatKind.f64 q10 (fOI FloatKind.f64 (f2iV FloatKind.f64 q10 IntKind.i64))) 4607182418800017408) 4618760256179416344)) 4607182418800017408 8) (br (fcmp BinOp.geq FloatKind.f64 (fop BinOp.add FloatKind.f64 (fop BinOp.sub FloatKind.f64 q10 (fOI FloatKind.f64 (f2iV FloatKind.f64 q10 IntKind.i64))) 4607182418800017408) 4602678819172646912) (k_ (fneg FloatKind.f64 (fop BinOp.mul FloatKind.f64 (fop BinOp.mul FloatKind.f64 (fop BinOp.add FloatKind.f64 (fop BinOp.sub FloatKind.f64 q10 (fOI FloatKind.f64 (f2iV FloatKind.f64 q10 IntKind.i64))) 4607182418800017408) 4618760256179416344) (z0y (fop BinOp.mul FloatKind.f64 (fop BinOp.mul FloatKind.f64 (fop BinOp.add FloatKind.f64 (fop BinOp.sub FloatKind.f64 q10 (fOI FloatKind.f64 (f2iV FloatKind.f64 q10 IntKind.i64))) 4607182418800017408) 4618760256179416344) (fop BinOp.mul FloatKind.f64 (fop BinOp.add FloatKind.f64 (fop BinOp.sub FloatKind.f64 q10 (fOI FloatKind.f64 (f2iV FloatKind.f64 q10 IntKind.i64))) 4607182418800017408) 4618760256179416344)) 4607182418800017408 8)))) (k_ (fop BinOp.mul FloatKind.f64 (fop BinOp.mul FloatKind.f64 (fop BinOp.add FloatKind.f64 (fop BinOp.sub FloatKind.f64 q10 (fOI FloatKind.f64 (f2iV FloatKind.f64 q10 IntKind.i64))) 4607182418800017408) 4618760256179416344) (z0y (fop BinOp.mul FloatKind.f64 (fop BinOp.mul FloatKind.f64 (fop BinOp.add FloatKind.f64 (fop BinOp.sub FloatKind.f64 q10 (fOI FloatKind.f64 (f2iV FloatKind.f64 q10 IntKind.i64))) 4607182418800017408) 4618760256179416344) (fop BinOp.mul FloatKind.f64 (fop BinOp.add FloatKind.f64 (fop BinOp.sub FloatKind.f64 q10 (fOI FloatKind.f64 (f2iV FloatKind.f64 q10 IntKind.i64))) 4607182418800017408) 4618760256179416344)) 4607182418800017408 8))))))) (br (fcmp BinOp.geq FloatKind.f64 (fop BinOp.sub FloatKind.f64 q10 (fOI FloatKind.f64 (f2iV FloatKind.f64 q10 IntKind.i64))) 4602678819172646912) (br (fcmp BinOp.gtr FloatKind.f64 (fop BinOp.sub FloatKind.f64 (fop BinOp.sub FloatKind.f64 q10 (fOI FloatKind.f64 (f2iV FloatKind.f64 q10 IntKind.i64))) 4602678819172646912) 4598175219545276416) (grd (z4m (fop BinOp.mul FloatKind.f64 (fop BinOp.mul FloatKind.f64 (fop BinOp.sub FloatKind.f64 4602678819172646912 (fop BinOp.sub FloatKind.f64 (fop BinOp.sub FloatKind.f64 q10 (fOI FloatKind.f64 (f2iV FloatKind.f64 q10 IntKind.i64))) 4602678819172646912)) 4618760256179416344) (fop BinOp.mul FloatKind.f64 (fop BinOp.sub FloatKind.f64 4602678819172646912 (fop BinOp.sub FloatKind.f64 (fop BinOp.sub FloatKind.f64 q10 (fOI FloatKind.f64 (f2iV FloatKind.f64 q10 IntKind.i64))) 4602678819172646912)) 4618760256179416344)) 4607182418800017408 8) (br (fcmp BinOp.geq FloatKind.f64 (fop BinOp.sub FloatKind.f64 q10 (fOI FloatKind.f64 (f2iV FloatKind.f64 q10 IntKind.i64))) 4602678819172646912) (k_ (fneg FloatKind.f64 (fop BinOp.mul FloatKind.f64 (fop BinOp.mul FloatKind.f64 (fop BinOp.sub FloatKind.f64 4602678819172646912 (fop BinOp.sub FloatKind.f64 (fop BinOp.sub FloatKind.f64 q10 (fOI FloatKind.f64 (f2iV FloatKind.f64 q10 IntKind.i64))) 4602678819172646912)) 4618760256179416344) (z0y (fop BinOp.mul FloatKind.f64 (fop BinOp.mul FloatKind.f64 (fop BinOp.sub FloatKind.f64 4602678819172646912 (fop BinOp.sub FloatKind.f64 (fop BinOp.sub FloatKind.f64 q10 (fOI FloatKind.f64 (f2iV FloatKind.f64 q10 IntKind.i64))) 4602678819172646912)) 4618760256179416344) (fop BinOp.mul FloatKind.f64 (fop BinOp.sub FloatKind.f64 4602678819172646912 (fop BinOp.sub FloatKind.f64 (fop BinOp.sub FloatKind.f64 q10 (fOI FloatKind.f64 (f2iV FloatKind.f64 q10 IntKind.i64))) 4602678819172646912)) 4618760256179416344)) 4607182418800017408 8)))) (k_ (fop BinOp.mul FloatKind.f64 (fop BinOp.mul FloatKind.f64 (fop BinOp.sub FloatKind.f64 4602678819172646912 (fop BinOp.sub FloatKind.f64 (fop BinOp.sub FloatKind.f64 q10 (fOI FloatKind.f64 (f2iV FloatKind.f64 q10 IntKind.i64))) 4602678819172646912)) 4618760256179416344) (z0y (fop BinOp.mul FloatKind.f64 (fop BinOp.mul FloatKind.f64 (fop BinOp.sub FloatKind.f64 4602678819172646912 (fop BinOp.sub FloatKind.f64 (fop BinOp.sub FloatKind.f64 q10 (fOI FloatKind.f64 (f2iV FloatKind.f64 q10 IntKind.i64))) 4602678819172646912)) 4618760256179416344) (fop BinOp.mul FloatKind.f64 (fop BinOp.sub FloatKind.f64 4602678819172646912 (fop BinOp.sub FloatKind.f64 (fop BinOp.sub FloatKind.f64 q10 (fOI FloatKind.f64 (f2iV FloatKind.f64 q10 IntKind.i64))) 4602678819172646912)) 4618760256179416344)) 4607182418800017408 8))))) (grd (z4m (fop BinOp.mul FloatKind.f64 (fop BinOp.mul FloatKind.f64 (fop BinOp.sub FloatKind.f64 (fop BinOp.sub FloatKind.f64 q10 (fOI FloatKind.f64 (f2iV FloatKind.f64 q10 IntKind.i64))) 4602678819172646912) 4618760256179416344) (fop BinOp.mul FloatKind.f64 (fop BinOp.sub FloatKind.f64 (fop BinOp.sub FloatKind.f64 q10 (fOI FloatKind.f64 (f2iV FloatKind.f64 q10 IntKind.i64))) 4602678819172646912) 4618760256179416344)) 4607182418800017408 8) (br (fcmp BinOp.geq FloatKind.f64 (fop BinOp.sub FloatKind.f64 q10 (fOI FloatKind.f64 (f2iV FloatKind.f64 q10 IntKind.i64))) 4602678819172646912) (k_ (fneg FloatKind.f64 (fop BinOp.mul FloatKind.f64 (fop BinOp.mul FloatKind.f64 (fop BinOp.sub FloatKind.f64 (fop BinOp.sub FloatKind.f64 q10 (fOI FloatKind.f64 (f2iV FloatKind.f64 q10 IntKind.i64))) 4602678819172646912) 4618760256179416344) (z0y (fop BinOp.mul FloatKind.f64 (fop BinOp.mul FloatKind.f64 (fop BinOp.sub FloatKind.f64 (fop BinOp.sub FloatKind.f64 q10 (fOI FloatKind.f64 (f2iV FloatKind.f64 q10 IntKind.i64))) 4602678819172646912) 4618760256179416344) (fop BinOp.mul FloatKind.f64 (fop BinOp.sub FloatKind.f64 (fop BinOp.sub FloatKind.f64 q10 (fOI FloatKind.f64 (f2iV FloatKind.f64 q10 IntKind.i64))) 4602678819172646912) 4618760256179416344)) 4607182418800017408 8)))) (k_ (fop BinOp.mul FloatKind.f64 (fop BinOp.mul FloatKind.f64 (fop BinOp.sub FloatKind.f64 (fop BinOp.sub FloatKind.f64 q10 (fOI FloatKind.f64 (f2iV FloatKind.f64 q10 IntKind.i64))) 4602678819172646912) 4618760256179416344) (z0y (fop BinOp.mul FloatKind.f64 (fop BinOp.mul FloatKind.f64 (fop BinOp.sub FloatKind.f64 (fop BinOp.sub FloatKind.f64 q10 (fOI FloatKind.f64 (f2iV FloatKind.f64 q10 IntKind.i64))) 4602678819172646912) 4618760256179416344) (fop BinOp.mul FloatKind.f64 (fop BinOp.sub FloatKind.f64 (fop BinOp.sub FloatKind.f64 q10 (fOI FloatKind.f64 (f2iV FloatKind.f64 q10 IntKind.i64))) 4602678819172646912) 4618760256179416344)) 4607182418800017408 8)))))) (br (fcmp BinOp.gtr FloatKind.f64 (fop BinOp.sub FloatKind.f64 q10 (fOI FloatKind.f64 (f2iV FloatKind.f64 q10 IntKind.i64))) 4598175219545276416) (grd (z4m (fop BinOp.mul FloatKind.f64 (fop BinOp.mul FloatKind.f64 (fop BinOp.sub FloatKind.f64 4602678819172646912 (fop BinOp.sub FloatKind.f64 q10 (fOI FloatKind.f64 (f2iV FloatKind.f64 q10 IntKind.i64)))) 4618760256179416344) (fop BinOp.mul FloatKind.f64 (fop BinOp.sub FloatKind.f64 4602678819172646912 (fop BinOp.sub FloatKind.f64 q10 (fOI FloatKind.f64 (f2iV FloatKind.f64 q10 IntKind.i64)))) 4618760256179416344)) 4607182418800017408 8) (br (fcmp BinOp.geq FloatKind.f64 (fop BinOp.sub FloatKind.f64 q10 (fOI FloatKind.f64 (f2iV FloatKind.f64 q10 IntKind.i64))) 4602678819172646912) (k_ (fneg FloatKind.f64 (fop BinOp.mul FloatKind.f64 (fop BinOp.mul FloatKind.f64 (fop BinOp.sub FloatKind.f64 4602678819172646912 (fop BinOp.sub FloatKind.f64 q10 (fOI FloatKind.f64 (f2iV FloatKind.f64 q10 IntKind.i64)))) 4618760256179416344) (z0y (fop BinOp.mul FloatKind.f64 (fop BinOp.mul FloatKind.f64 (fop BinOp.sub FloatKind.f64 4602678819172646912 (fop BinOp.sub FloatKind.f64 q10 (fOI FloatKind.f64 (f2iV FloatKind.f64 q10 IntKind.i64)))) 4618760256179416344) (fop BinOp.mul FloatKind.f64 (fop BinOp.sub FloatKind.f64 4602678819172646912 (fop BinOp.sub FloatKind.f64 q10 (fOI FloatKind.f64 (f2iV FloatKind.f64 q10 IntKind.i64)))) 4618760256179416344)) 4607182418800017408 8)))) (k_ (fop BinOp.mul FloatKind.f64 (fop BinOp.mul FloatKind.f64 (fop BinOp.sub FloatKind.f64 4602678819172646912 (fop BinOp.sub FloatKind.f64 q10 (fOI FloatKind.f64 (f2iV FloatKind.f64 q10 IntKind.i64)))) 4618760256179416344) (z0y (fop BinOp.mul FloatKind.f64 (fop BinOp.mul FloatKind.f64 (fop BinOp.sub FloatKind.f64 4602678819172646912 (fop BinOp.sub FloatKind.f64 q10 (fOI FloatKind.f64 (f2iV FloatKind.f64 q10 IntKind.i64)))) 4618760256179416344) (fop BinOp.mul FloatKind.f64 (fop BinOp.sub FloatKind.f64 4602678819172646912 (fop BinOp.sub FloatKind.f64 q10 (fOI FloatKind.f64 (f2iV FloatKind.f64 q10 IntKind.i64)))) 4618760256179416344)) 4607182418800017408 8))))) (grd (z4m (fop BinOp.mul FloatKind.f64 (fop BinOp.mul FloatKind.f64 (fop BinOp.sub FloatKind.f64 q10 (fOI FloatKind.f64 (f2iV FloatKind.f64 q10 IntKind.i64))) 4618760256179416344) (fop BinOp.mul FloatKind.f64 (fop BinOp.sub FloatKind.f64 q10 (fOI FloatKind.f64 (f2iV FloatKind.f64 q10 IntKind.i64))) 4618760256179416344)) 4607182418800017408 8) (br (fcmp BinOp.geq FloatKind.f64 (fop BinOp.sub FloatKind.f64 q10 (fOI FloatKind.f64 (f2iV FloatKind.f64 q10 IntKind.i64))) 4602678819172646912) (k_ (fneg FloatKind.f64 (fop BinOp.mul FloatKind.f64 (fop BinOp.mul FloatKind.f64 (fop BinOp.sub FloatKind.f64 q10 (fOI FloatKind.f64 (f2iV FloatKind.f64 q10 IntKind.i64))) 4618760256179416344) (z0y (fop BinOp.mul FloatKind.f64 (fop BinOp.mul FloatKind.f64 (fop BinOp.sub FloatKind.f64 q10 (fOI FloatKind.f64 (f2iV FloatKind.f64 q10 IntKind.i64))) 4618760256179416344) (fop BinOp.mul FloatKind.f64 (fop BinOp.sub FloatKind.f64 q10 (fOI FloatKind.f64 (f2iV FloatKind.f64 q10 IntKind.i64))) 4618760256179416344)) 4607182418800017408 8)))) (k_ (fop BinOp.mul FloatKind.f64 (fop BinOp.mul FloatKind.f64 (fop BinOp.sub FloatKind.f64 q10 (fOI FloatKind.f64 (f2iV FloatKind.f64 q10 IntKind.i64))) 4618760256179416344) (z0y (fop BinOp.mul FloatKind.f64 (fop BinOp.mul FloatKind.f64 (fop BinOp.sub FloatKind.f64 q10 (fOI FloatKind.f64 (f2iV FloatKind.f64 q10 IntKind.i64))) 4618760256179416344) (fop BinOp.mul FloatKind.f64 (fop BinOp.sub FloatKind.f64 q10 (fOI FloatKind.f64 (f2iV FloatKind.f64 q10 IntKind.i64))) 4618760256179416344)) 4607182418800017408 8))))))))))))
noncomputable def z7l (q10 : Nat) : Option (Nat) := z7x q10 (fun c0_ => some c0_)
theorem zkv {R R' : Type} (o : Option R → Option R') (h0 : o none = none) (q10 : Nat) (k_ : Nat → Option R) : z7x q10 (fun c0_ => o (k_ c0_)) = o (z7x q10 k_) := by
  unfold z7x
  repeat (first | refine grd_out h0 ?_ | refine br_out ?_ ?_ | rfl | exact h0.symm)
noncomputable def zeo (q10 : Nat) : Bool := (z7l q10).isSome
noncomputable def zar (q10 : Nat) : Nat := ((z7l q10).getD default)
theorem zn5 {q10 : Nat} {r : Nat} (h : z7l q10 = some r) : zeo q10 = true ∧ zar q10 = r := by
  unfold zeo zar
  rw [h]
  exact ⟨rfl, rfl⟩
noncomputable def z6y {R : Type} (an : Nat) (bn : Nat) (b0 : List Nat) (b1 : List Nat) (i : Int) (kn_ : Int → Option R) (k0_ : Unit → Option R) (k1_ : Int → Bool → Option R) : Option R := (br (ltI i (Int.ofNat an)) (grd (okIx i an) (grd (okIx i bn) (grd (zgh (gF b0 (ixO 0 i 3)) (gF b0 (Nat.succ (ixO 0 i 3))) (gF b0 (Nat.succ (Nat.succ (ixO 0 i 3)))) (gF b1 (ixO 0 i 3)) (gF b1 (Nat.succ (ixO 0 i 3))) (gF b1 (Nat.succ (Nat.succ (ixO 0 i 3))))) (br (bnot (zfe (gF b0 (ixO 0 i 3)) (gF b0 (Nat.succ (ixO 0 i 3))) (gF b0 (Nat.succ (Nat.succ (ixO 0 i 3)))) (gF b1 (ixO 0 i 3)) (gF b1 (Nat.succ (ixO 0 i 3))) (gF b1 (Nat.succ (Nat.succ (ixO 0 i 3)))))) (k0_ ()) (kn_ (addI IntKind.i64 i 1)))))) (k1_ i (ltI i (Int.ofNat an))))
theorem zk1 {R R' : Type} (o : Option R → Option R') (h0 : o none = none) (an : Nat) (bn : Nat) (b0 : List Nat) (b1 : List Nat) (i : Int) (kn_ : Int → Option R) (k0_ : Unit → Option R) (k1_ : Int → Bool → Option R) : z6y an bn b0 b1 i (fun i' => o (kn_ i')) (fun _ => o (k0_ ())) (fun c0_ c1_ => o (k1_ c0_ c1_)) = o (z6y an bn b0 b1 i kn_ k0_ k1_) := by
  unfold z6y
  repeat (first | refine grd_out h0 ?_ | refine br_out ?_ ?_ | rfl | exact h0.symm)
noncomputable def z5k (an : Nat) (bn : Nat) (b0 : List Nat) (b1 : List Nat) : Nat → Int → Option ((Unit) ⊕ (Int × Bool))
  | 0, _ => none
  | n + 1, i => z6y an bn b0 b1  i  (fun i' => z5k an bn b0 b1 n i') (fun _ => some (Sum.inl ())) (fun c0_ c1_ => some (Sum.inr (c0_, c1_)))
theorem zha (an : Nat) (bn : Nat) (b0 : List Nat) (b1 : List Nat) (n : Nat) (i : Int) : z5k an bn b0 b1 (n + 1) i = z6y an bn b0 b1  i  (fun i' => z5k an bn b0 b1 n i') (fun _ => some (Sum.inl ())) (fun c0_ c1_ => some (Sum.inr (c0_, c1_))) := rfl
noncomputable def z9p (an : Nat) (bn : Nat) (b0 : List Nat) (b1 : List Nat) (i : Int) : Bool := (z5k an bn b0 b1 big i).isSome
noncomputable def z9e (an : Nat) (bn : Nat) (b0 : List Nat) (b1 : List Nat) (i : Int) : Bool := oL (z5k an bn b0 b1 big i)
noncomputable def zdg (an : Nat) (bn : Nat) (b0 : List Nat) (b1 : List Nat) (i : Int) : Int := ((tR (z5k an bn b0 b1 big i)).getD default).1
noncomputable def zdh (an : Nat) (bn : Nat) (b0 : List Nat) (b1 : List Nat) (i : Int) : Bool := ((tR (z5k an bn b0 b1 big i)).getD default).2
theorem zl3 {an : Nat} {bn : Nat} {b0 : List Nat} {b1 : List Nat} {i : Int} {m : Nat} {r : Int × Bool} (hm : m = big) (h : z5k an bn b0 b1 m i = some (Sum.inr r)) : z9p an bn b0 b1 i = true ∧ z9e an bn b0 b1 i = false ∧ zdg an bn b0 b1 i = r.1 ∧ zdh an bn b0 b1 i = r.2 := by
  subst hm
  unfold z9p z9e zdg zdh
  rw [h]
  exact ⟨rfl, rfl, rfl, rfl⟩
noncomputable def z1l {R : Type} (sn : Nat) (t7 : Int) (b0 : List Nat) (t8 : Int) (kn_ : Int → Option R) (k0_ : Int → Option R) (k1_ : Int → Bool → Option R) : Option R := (br (ltI t8 t7) (grd (okIx t8 sn) (grd (zem (gF b0 (ixO 0 t8 1))) (br (zd4 (gF b0 (ixO 0 t8 1))) (k0_ t8) (kn_ (addI IntKind.i64 t8 1))))) (k1_ t8 (ltI t8 t7)))
theorem zdk {R R' : Type} (o : Option R → Option R') (h0 : o none = none) (sn : Nat) (t7 : Int) (b0 : List Nat) (t8 : Int) (kn_ : Int → Option R) (k0_ : Int → Option R) (k1_ : Int → Bool → Option R) : z1l sn t7 b0 t8 (fun t8' => o (kn_ t8')) (fun c0_ => o (k0_ c0_)) (fun c0_ c1_ => o (k1_ c0_ c1_)) = o (z1l sn t7 b0 t8 kn_ k0_ k1_) := by
  unfold z1l
  repeat (first | refine grd_out h0 ?_ | refine br_out ?_ ?_ | rfl | exact h0.symm)
noncomputable def z0o (sn : Nat) (t7 : Int) (b0 : List Nat) : Nat → Int → Option ((Int) ⊕ (Int × Bool))
  | 0, _ => none
  | n + 1, t8 => z1l sn t7 b0  t8  (fun t8' => z0o sn t7 b0 n t8') (fun c0_ => some (Sum.inl c0_)) (fun c0_ c1_ => some (Sum.inr (c0_, c1_)))
theorem z8n (sn : Nat) (t7 : Int) (b0 : List Nat) (n : Nat) (t8 : Int) : z0o sn t7 b0 (n + 1) t8 = z1l sn t7 b0  t8  (fun t8' => z0o sn t7 b0 n t8') (fun c0_ => some (Sum.inl c0_)) (fun c0_ c1_ => some (Sum.inr (c0_, c1_))) := rfl
noncomputable def z46 (sn : Nat) (t7 : Int) (b0 : List Nat) (t8 : Int) : Bool := (z0o sn t7 b0 big t8).isSome
noncomputable def z40 (sn : Nat) (t7 : Int) (b0 : List Nat) (t8 : Int) : Bool := oL (z0o sn t7 b0 big t8)
noncomputable def z66 (sn : Nat) (t7 : Int) (b0 : List Nat) (t8 : Int) : Int := ((tL (z0o sn t7 b0 big t8)).getD default)
noncomputable def z7o (sn : Nat) (t7 : Int) (b0 : List Nat) (t8 : Int) : Int := ((tR (z0o sn t7 b0 big t8)).getD default).1
noncomputable def z7m (sn : Nat) (t7 : Int) (b0 : List Nat) (t8 : Int) : Bool := ((tR (z0o sn t7 b0 big t8)).getD default).2
theorem zev {sn : Nat} {t7 : Int} {b0 : List Nat} {t8 : Int} {m : Nat} {r : Int} (hm : m = big) (h : z0o sn t7 b0 m t8 = some (Sum.inl r)) : z46 sn t7 b0 t8 = true ∧ z40 sn t7 b0 t8 = true ∧ z66 sn t7 b0 t8 = r := by
  subst hm
  unfold z46 z40 z66
  rw [h]
  exact ⟨rfl, rfl, rfl⟩
theorem zer {sn : Nat} {t7 : Int} {b0 : List Nat} {t8 : Int} {m : Nat} {r : Int × Bool} (hm : m = big) (h : z0o sn t7 b0 m t8 = some (Sum.inr r)) : z46 sn t7 b0 t8 = true ∧ z40 sn t7 b0 t8 = false ∧ z7o sn t7 b0 t8 = r.1 ∧ z7m sn t7 b0 t8 = r.2 := by
  subst hm
  unfold z46 z40 z7o z7m
  rw [h]
  exact ⟨rfl, rfl, rfl, rfl⟩
noncomputable def z1h {R : Type} (sn : Nat) (t7 : Int) (b0 : List Nat) (t8 : Int) (kn_ : Int → Option R) (k0_ : Int → Option R) (k1_ : Int → Bool → Option R) : Option R := (br (ltI t8 t7) (grd (okIx t8 sn) (grd (zc3 (gF b0 (ixO 0 t8 1))) (br (zbu (gF b0 (ixO 0 t8 1))) (k0_ t8) (kn_ (addI IntKind.i64 t8 1))))) (k1_ t8 (ltI t8 t7)))
theorem zcp {R R' : Type} (o : Option R → Option R') (h0 : o none = none) (sn : Nat) (t7 : Int) (b0 : List Nat) (t8 : Int) (kn_ : Int → Option R) (k0_ : Int → Option R) (k1_ : Int → Bool → Option R) : z1h sn t7 b0 t8 (fun t8' => o (kn_ t8')) (fun c0_ => o (k0_ c0_)) (fun c0_ c1_ => o (k1_ c0_ c1_)) = o (z1h sn t7 b0 t8 kn_ k0_ k1_) := by
  unfold z1h
  repeat (first | refine grd_out h0 ?_ | refine br_out ?_ ?_ | rfl | exact h0.symm)
noncomputable def z0n (sn : Nat) (t7 : Int) (b0 : List Nat) : Nat → Int → Option ((Int) ⊕ (Int × Bool))
  | 0, _ => none
  | n + 1, t8 => z1h sn t7 b0  t8  (fun t8' => z0n sn t7 b0 n t8') (fun c0_ => some (Sum.inl c0_)) (fun c0_ c1_ => some (Sum.inr (c0_, c1_)))
theorem z8g (sn : Nat) (t7 : Int) (b0 : List Nat) (n : Nat) (t8 : Int) : z0n sn t7 b0 (n + 1) t8 = z1h sn t7 b0  t8  (fun t8' => z0n sn t7 b0 n t8') (fun c0_ => some (Sum.inl c0_)) (fun c0_ c1_ => some (Sum.inr (c0_, c1_))) := rfl
noncomputable def z3u (sn : Nat) (t7 : Int) (b0 : List Nat) (t8 : Int) : Bool := (z0n sn t7 b0 big t8).isSome
noncomputable def z3n (sn : Nat) (t7 : Int) (b0 : List Nat) (t8 : Int) : Bool := oL (z0n sn t7 b0 big t8)
noncomputable def z5z (sn : Nat) (t7 : Int) (b0 : List Nat) (t8 : Int) : Int := ((tL (z0n sn t7 b0 big t8)).getD default)
noncomputable def z7c (sn : Nat) (t7 : Int) (b0 : List Nat) (t8 : Int) : Int := ((tR (z0n sn t7 b0 big t8)).getD default).1
noncomputable def z7b (sn : Nat) (t7 : Int) (b0 : List Nat) (t8 : Int) : Bool := ((tR (z0n sn t7 b0 big t8)).getD default).2
theorem zdn {sn : Nat} {t7 : Int} {b0 : List Nat} {t8 : Int} {m : Nat} {r : Int} (hm : m = big) (h : z0n sn t7 b0 m t8 = some (Sum.inl r)) : z3u sn t7 b0 t8 = true ∧ z3n sn t7 b0 t8 = true ∧ z5z sn t7 b0 t8 = r := by
  subst hm
  unfold z3u z3n z5z
  rw [h]
  exact ⟨rfl, rfl, rfl⟩
theorem zde {sn : Nat} {t7 : Int} {b0 : List Nat} {t8 : Int} {m : Nat} {r : Int × Bool} (hm : m = big) (h : z0n sn t7 b0 m t8 = some (Sum.inr r)) : z3u sn t7 b0 t8 = true ∧ z3n sn t7 b0 t8 = false ∧ z7c sn t7 b0 t8 = r.1 ∧ z7b sn t7 b0 t8 = r.2 := by
  subst hm
  unfold z3u z3n z7c z7b
  rw [h]
  exact ⟨rfl, rfl, rfl, rfl⟩
noncomputable def z8f {R : Type} (t3 : Int) (b0 : List Nat) (b1 : List Nat) (b2 : List Nat) (q18 : Nat) (q1j : Nat) (q1k : Nat) (t4 : Int) (kn_ : Int → Option R) (k0_ : Unit → Option R) (k1_ : Int → Bool → Option R) : Option R := (br (ltI t4 t3) (grd (okIx t4 q18) (br (fcmp BinOp.geq FloatKind.f32 (gF b0 (ixO 0 t4 1)) 3204448256) (grd (okIx t4 q18) (br (bnot (fcmp BinOp.leq FloatKind.f32 (gF b0 (ixO 0 t4 1)) 1056964608)) (k0_ ()) (br (ltI 0 t4) (grd (okIx t4 q18) (grd (okIx (subI IntKind.i64 t4 1) q18) (br (fcmp BinOp.leq FloatKind.f32 (gF b0 (ixO 0 t4 1)) (gF b0 (ixO 0 (subI IntKind.i64 t4 1) 1))) (k0_ ()) (grd (okIx t4 q1j) (grd (z51 (gF b1 (ixO 0 t4 1))) (br (bnot (z4b (gF b1 (ixO 0 t4 1)))) (k0_ ()) (grd (okIx t4 q1k) (grd (z91 (gF b2 (ixO 0 t4 1))) (br (bnot (z8j (gF b2 (ixO 0 t4 1)))) (k0_ ()) (kn_ (addI IntKind.i64 t4 1))))))))))) (grd (okIx t4 q1j) (grd (z51 (gF b1 (ixO 0 t4 1))) (br (bnot (z4b (gF b1 (ixO 0 t4 1)))) (k0_ ()) (grd (okIx t4 q1k) (grd (z91 (gF b2 (ixO 0 t4 1))) (br (bnot (z8j (gF b2 (ixO 0 t4 1)))) (k0_ ()) (kn_ (addI IntKind.i64 t4 1))))))))))) (br (bnot Bool.false) (k0_ ()) (br (ltI 0 t4) (grd (okIx t4 q18) (grd (okIx (subI IntKind.i64 t4 1) q18) (br (fcmp BinOp.leq FloatKind.f32 (gF b0 (ixO 0 t4 1)) (gF b0 (ixO 0 (subI IntKind.i64 t4 1) 1))) (k0_ ()) (grd (okIx t4 q1j) (grd (z51 (gF b1 (ixO 0 t4 1))) (br (bnot (z4b (gF b1 (ixO 0 t4 1)))) (k0_ ()) (grd (okIx t4 q1k) (grd (z91 (gF b2 (ixO 0 t4 1))) (br (bnot (z8j (gF b2 (ixO 0 t4 1)))) (k0_ ()) (kn_ (addI IntKind.i64 t4 1))))))))))) (grd (okIx t4 q1j) (grd (z51 (gF b1 (ixO 0 t4 1))) (br (bnot (z4b (gF b1 (ixO 0 t4 1)))) (k0_ ()) (grd (okIx t4 q1k) (grd (z91 (gF b2 (ixO 0 t4 1))) (br (bnot (z8j (gF b2 (ixO 0 t4 1)))) (k0_ ()) (kn_ (addI IntKind.i64 t4 1)))))))))))) (k1_ t4 (ltI t4 t3)))
theorem zn6 {R R' : Type} (o : Option R → Option R') (h0 : o none = none) (t3 : Int) (b0 : List Nat) (b1 : List Nat) (b2 : List Nat) (q18 : Nat) (q1j : Nat) (q1k : Nat) (t4 : Int) (kn_ : Int → Option R) (k0_ : Unit → Option R) (k1_ : Int → Bool → Option R) : z8f t3 b0 b1 b2 q18 q1j q1k t4 (fun t4' => o (kn_ t4')) (fun _ => o (k0_ ())) (fun c0_ c1_ => o (k1_ c0_ c1_)) = o (z8f t3 b0 b1 b2 q18 q1j q1k t4 kn_ k0_ k1_) := by
  unfold z8f
  repeat (first | refine grd_out h0 ?_ | refine br_out ?_ ?_ | rfl | exact h0.symm)
noncomputable def z6g (t3 : Int) (b0 : List Nat) (b1 : List Nat) (b2 : List Nat) (q18 : Nat) (q1j : Nat) (q1k : Nat) : Nat → Int → Option ((Unit) ⊕ (Int × Bool))
  | 0, _ => none
  | n + 1, t4 => z8f t3 b0 b1 b2 q18 q1j q1k  t4  (fun t4' => z6g t3 b0 b1 b2 q18 q1j q1k n t4') (fun _ => some (Sum.inl ())) (fun c0_ c1_ => some (Sum.inr (c0_, c1_)))
theorem zip (t3 : Int) (b0 : List Nat) (b1 : List Nat) (b2 : List Nat) (q18 : Nat) (q1j : Nat) (q1k : Nat) (n : Nat) (t4 : Int) : z6g t3 b0 b1 b2 q18 q1j q1k (n + 1) t4 = z8f t3 b0 b1 b2 q18 q1j q1k  t4  (fun t4' => z6g t3 b0 b1 b2 q18 q1j q1k n t4') (fun _ => some (Sum.inl ())) (fun c0_ c1_ => some (Sum.inr (c0_, c1_))) := rfl
noncomputable def z94 (t3 : Int) (b0 : List Nat) (b1 : List Nat) (b2 : List Nat) (q18 : Nat) (q1j : Nat) (q1k : Nat) (t4 : Int) : Bool := (z6g t3 b0 b1 b2 q18 q1j q1k big t4).isSome
noncomputable def z8m (t3 : Int) (b0 : List Nat) (b1 : List Nat) (b2 : List Nat) (q18 : Nat) (q1j : Nat) (q1k : Nat) (t4 : Int) : Bool := oL (z6g t3 b0 b1 b2 q18 q1j q1k big t4)
noncomputable def zhl (t3 : Int) (b0 : List Nat) (b1 : List Nat) (b2 : List Nat) (q18 : Nat) (q1j : Nat) (q1k : Nat) (t4 : Int) : Int := ((tR (z6g t3 b0 b1 b2 q18 q1j q1k big t4)).getD default).1
noncomputable def zhg (t3 : Int) (b0 : List Nat) (b1 : List Nat) (b2 : List Nat) (q18 : Nat) (q1j : Nat) (q1k : Nat) (t4 : Int) : Bool := ((tR (z6g t3 b0 b1 b2 q18 q1j q1k big t4)).getD default).2
theorem zp2 {t3 : Int} {b0 : List Nat} {b1 : List Nat} {b2 : List Nat} {q18 : Nat} {q1j : Nat} {q1k : Nat} {t4 : Int} {m : Nat} {r : Unit} (hm : m = big) (h : z6g t3 b0 b1 b2 q18 q1j q1k m t4 = some (Sum.inl r)) : z94 t3 b0 b1 b2 q18 q1j q1k t4 = true ∧ z8m t3 b0 b1 b2 q18 q1j q1k t4 = true := by
  subst hm
  unfold z94 z8m
  rw [h]
  exact ⟨rfl, rfl⟩
theorem zoo {t3 : Int} {b0 : List Nat} {b1 : List Nat} {b2 : List Nat} {q18 : Nat} {q1j : Nat} {q1k : Nat} {t4 : Int} {m : Nat} {r : Int × Bool} (hm : m = big) (h : z6g t3 b0 b1 b2 q18 q1j q1k m t4 = some (Sum.inr r)) : z94 t3 b0 b1 b2 q18 q1j q1k t4 = true ∧ z8m t3 b0 b1 b2 q18 q1j q1k t4 = false ∧ zhl t3 b0 b1 b2 q18 q1j q1k t4 = r.1 ∧ zhg t3 b0 b1 b2 q18 q1j q1k t4 = r.2 := by
  subst hm
  unfold z94 z8m zhl zhg
  rw [h]
  exact ⟨rfl, rfl, rfl, rfl⟩
noncomputable def zcm {R : Type} (q0l : Nat) (q0q : List Nat) (q0m : Nat) (q0s : List Nat) (q0n : Nat) (q0r : List Nat) (q0z : Nat) (q14 : List Nat) (q1f : Int) (q1m : Nat) (q1n : Nat) (k_ : Nat → Nat → Nat → Nat → (List Nat) → (List Nat) → (List Nat) → (List Nat) → Option R) : Option R := (grd (zgg q0l (pF q0q 0 (muN q0l 1)) q0m (pF q0s 0 (muN q0m 1)) q0n (pF q0r 0 (muN q0n 1))) (grd (zfa q0z (pF q14 0 (muN q0z 3))) (k_ (zf7 q0l (pF q0q 0 (muN q0l 1)) q0m (pF q0s 0 (muN q0m 1)) q0n (pF q0r 0 (muN q0n 1))) (zf5 q0l (pF q0q 0 (muN q0l 1)) q0m (pF q0s 0 (muN q0m 1)) q0n (pF q0r 0 (muN q0n 1))) (zf3 q0l (pF q0q 0 (muN q0l 1)) q0m (pF q0s 0 (muN q0m 1)) q0n (pF q0r 0 (muN q0n 1))) (ze2 q0z (pF q14 0 (muN q0z 3))) (zf8 q0l (pF q0q 0 (muN q0l 1)) q0m (pF q0s 0 (muN q0m 1)) q0n (pF q0r 0 (muN q0n 1))) (zf4 q0l (pF q0q 0 (muN q0l 1)) q0m (pF q0s 0 (muN q0m 1)) q0n (pF q0r 0 (muN q0n 1))) (zfg q0l (pF q0q 0 (muN q0l 1)) q0m (pF q0s 0 (muN q0m 1)) q0n (pF q0r 0 (muN q0n 1))) (ze5 q0z (pF q14 0 (muN q0z 3))))))
noncomputable def z70 (q0l : Nat) (q0q : List Nat) (q0m : Nat) (q0s : List Nat) (q0n : Nat) (q0r : List Nat) (q0z : Nat) (q14 : List Nat) (q1f : Int) (q1m : Nat) (q1n : Nat) : Option (Nat × Nat × Nat × Nat × (List Nat) × (List Nat) × (List Nat) × (List Nat)) := zcm q0l q0q q0m q0s q0n q0r q0z q14 q1f q1m q1n (fun c0_ c1_ c2_ c3_ c4_ c5_ c6_ c7_ => some (c0_, c1_, c2_, c3_, c4_, c5_, c6_, c7_))
theorem znw {R R' : Type} (o : Option R → Option R') (h0 : o none = none) (q0l : Nat) (q0q : List Nat) (q0m : Nat) (q0s : List Nat) (q0n : Nat) (q0r : List Nat) (q0z : Nat) (q14 : List Nat) (q1f : Int) (q1m : Nat) (q1n : Nat) (k_ : Nat → Nat → Nat → Nat → (List Nat) → (List Nat) → (List Nat) → (List Nat) → Option R) : zcm q0l q0q q0m q0s q0n q0r q0z q14 q1f q1m q1n (fun c0_ c1_ c2_ c3_ c4_ c5_ c6_ c7_ => o (k_ c0_ c1_ c2_ c3_ c4_ c5_ c6_ c7_)) = o (zcm q0l q0q q0m q0s q0n q0r q0z q14 q1f q1m q1n k_) := by
  unfold zcm
  repeat (first | refine grd_out h0 ?_ | refine br_out ?_ ?_ | rfl | exact h0.symm)
noncomputable def zb1 (q0l : Nat) (q0q : List Nat) (q0m : Nat) (q0s : List Nat) (q0n : Nat) (q0r : List Nat) (q0z : Nat) (q14 : List Nat) (q1f : Int) (q1m : Nat) (q1n : Nat) : Bool := (z70 q0l q0q q0m q0s q0n q0r q0z q14 q1f q1m q1n).isSome
noncomputable def z0u (q0l : Nat) (q0q : List Nat) (q0m : Nat) (q0s : List Nat) (q0n : Nat) (q0r : List Nat) (q0z : Nat) (q14 : List Nat) (q1f : Int) (q1m : Nat) (q1n : Nat) : Nat := ((z70 q0l q0q q0m q0s q0n q0r q0z q14 q1f q1m q1n).getD default).1
noncomputable def z0t (q0l : Nat) (q0q : List Nat) (q0m : Nat) (q0s : List Nat) (q0n : Nat) (q0r : List Nat) (q0z : Nat) (q14 : List Nat) (q1f : Int) (q1m : Nat) (q1n : Nat) : Nat := ((z70 q0l q0q q0m q0s q0n q0r q0z q14 q1f q1m q1n).getD default).2.1
noncomputable def z0s (q0l : Nat) (q0q : List Nat) (q0m : Nat) (q0s : List Nat) (q0n : Nat) (q0r : List Nat) (q0z : Nat) (q14 : List Nat) (q1f : Int) (q1m : Nat) (q1n : Nat) : Nat := ((z70 q0l q0q q0m q0s q0n q0r q0z q14 q1f q1m q1n).getD default).2.2.1
noncomputable def z0v (q0l : Nat) (q0q : List Nat) (q0m : Nat) (q0s : List Nat) (q0n : Nat) (q0r : List Nat) (q0z : Nat) (q14 : List Nat) (q1f : Int) (q1m : Nat) (q1n : Nat) : Nat := ((z70 q0l q0q q0m q0s q0n q0r q0z q14 q1f q1m q1n).getD default).2.2.2.1
noncomputable def z3k (q0l : Nat) (q0q : List Nat) (q0m : Nat) (q0s : List Nat) (q0n : Nat) (q0r : List Nat) (q0z : Nat) (q14 : List Nat) (q1f : Int) (q1m : Nat) (q1n : Nat) : List Nat := ((z70 q0l q0q q0m q0s q0n q0r q0z q14 q1f q1m q1n).getD default).2.2.2.2.1
noncomputable def z3m (q0l : Nat) (q0q : List Nat) (q0m : Nat) (q0s : List Nat) (q0n : Nat) (q0r : List Nat) (q0z : Nat) (q14 : List Nat) (q1f : Int) (q1m : Nat) (q1n : Nat) : List Nat := ((z70 q0l q0q q0m q0s q0n q0r q0z q14 q1f q1m q1n).getD default).2.2.2.2.2.1
noncomputable def z3i (q0l : Nat) (q0q : List Nat) (q0m : Nat) (q0s : List Nat) (q0n : Nat) (q0r : List Nat) (q0z : Nat) (q14 : List Nat) (q1f : Int) (q1m : Nat) (q1n : Nat) : List Nat := ((z70 q0l q0q q0m q0s q0n q0r q0z q14 q1f q1m q1n).getD default).2.2.2.2.2.2.1
noncomputable def z3o (q0l : Nat) (q0q : List Nat) (q0m : Nat) (q0s : List Nat) (q0n : Nat) (q0r : List Nat) (q0z : Nat) (q14 : List Nat) (q1f : Int) (q1m : Nat) (q1n : Nat) : List Nat := ((z70 q0l q0q q0m q0s q0n q0r q0z q14 q1f q1m q1n).getD default).2.2.2.2.2.2.2
theorem zq6 {q0l : Nat} {q0q : List Nat} {q0m : Nat} {q0s : List Nat} {q0n : Nat} {q0r : List Nat} {q0z : Nat} {q14 : List Nat} {q1f : Int} {q1m : Nat} {q1n : Nat} {r : Nat × Nat × Nat × Nat × (List Nat) × (List Nat) × (List Nat) × (List Nat)} (h : z70 q0l q0q q0m q0s q0n q0r q0z q14 q1f q1m q1n = some r) : zb1 q0l q0q q0m q0s q0n q0r q0z q14 q1f q1m q1n = true ∧ z0u q0l q0q q0m q0s q0n q0r q0z q14 q1f q1m q1n = r.1 ∧ z0t q0l q0q q0m q0s q0n q0r q0z q14 q1f q1m q1n = r.2.1 ∧ z0s q0l q0q q0m q0s q0n q0r q0z q14 q1f q1m q1n = r.2.2.1 ∧ z0v q0l q0q q0m q0s q0n q0r q0z q14 q1f q1m q1n = r.2.2.2.1 ∧ z3k q0l q0q q0m q0s q0n q0r q0z q14 q1f q1m q1n = r.2.2.2.2.1 ∧ z3m q0l q0q q0m q0s q0n q0r q0z q14 q1f q1m q1n = r.2.2.2.2.2.1 ∧ z3i q0l q0q q0m q0s q0n q0r q0z q14 q1f q1m q1n = r.2.2.2.2.2.2.1 ∧ z3o q0l q0q q0m q0s q0n q0r q0z q14 q1f q1m q1n = r.2.2.2.2.2.2.2 := by
  unfold zb1 z0u z0t z0s z0v z3k z3m z3i z3o
  rw [h]
  exact ⟨rfl, rfl, rfl, rfl, rfl, rfl, rfl, rfl, rfl⟩
noncomputable def zb8 {R : Type} (q11 : Nat) (q1d : List Nat) (q16 : Nat) (q1g : List Nat) (q17 : Nat) (q1h : List Nat) (q24 : Nat) (q2e : List Nat) (q26 : Nat) (q2i : List Nat) (q27 : Nat) (q2f : List Nat) (k_ : Bool → Option R) : Option R := (grd (zah q11 (pF q1d 0 (muN q11 1)) q24 (pF q2e 0 (muN q24 1))) (br (bnot (z9k q11 (pF q1d 0 (muN q11 1)) q24 (pF q2e 0 (muN q24 1)))) (k_ Bool.false) (grd (zah q16 (pF q1g 0 (muN q16 1)) q26 (pF q2i 0 (muN q26 1))) (br (bnot (z9k q16 (pF q1g 0 (muN q16 1)) q26 (pF q2i 0 (muN q26 1)))) (k_ Bool.false) (grd (zah q17 (pF q1h 0 (muN q17 1)) q27 (pF q2f 0 (muN q27 1))) (br (bnot (z9k q17 (pF q1h 0 (muN q17 1)) q27 (pF q2f 0 (muN q27 1)))) (k_ Bool.false) (k_ Bool.true)))))))
noncomputable def zb2 (q11 : Nat) (q1d : List Nat) (q16 : Nat) (q1g : List Nat) (q17 : Nat) (q1h : List Nat) (q24 : Nat) (q2e : List Nat) (q26 : Nat) (q2i : List Nat) (q27 : Nat) (q2f : List Nat) : Option (Bool) := zb8 q11 q1d q16 q1g q17 q1h q24 q2e q26 q2i q27 q2f (fun c0_ => some c0_)
theorem zm4 {R R' : Type} (o : Option R → Option R') (h0 : o none = none) (q11 : Nat) (q1d : List Nat) (q16 : Nat) (q1g : List Nat) (q17 : Nat) (q1h : List Nat) (q24 : Nat) (q2e : List Nat) (q26 : Nat) (q2i : List Nat) (q27 : Nat) (q2f : List Nat) (k_ : Bool → Option R) : zb8 q11 q1d q16 q1g q17 q1h q24 q2e q26 q2i q27 q2f (fun c0_ => o (k_ c0_)) = o (zb8 q11 q1d q16 q1g q17 q1h q24 q2e q26 q2i q27 q2f k_) := by
  unfold zb8
  repeat (first | refine grd_out h0 ?_ | refine br_out ?_ ?_ | rfl | exact h0.symm)
noncomputable def zgi (q11 : Nat) (q1d : List Nat) (q16 : Nat) (q1g : List Nat) (q17 : Nat) (q1h : List Nat) (q24 : Nat) (q2e : List Nat) (q26 : Nat) (q2i : List Nat) (q27 : Nat) (q2f : List Nat) : Bool := (zb2 q11 q1d q16 q1g q17 q1h q24 q2e q26 q2i q27 q2f).isSome
noncomputable def zfd (q11 : Nat) (q1d : List Nat) (q16 : Nat) (q1g : List Nat) (q17 : Nat) (q1h : List Nat) (q24 : Nat) (q2e : List Nat) (q26 : Nat) (q2i : List Nat) (q27 : Nat) (q2f : List Nat) : Bool := ((zb2 q11 q1d q16 q1g q17 q1h q24 q2e q26 q2i q27 q2f).getD default)
theorem zow {q11 : Nat} {q1d : List Nat} {q16 : Nat} {q1g : List Nat} {q17 : Nat} {q1h : List Nat} {q24 : Nat} {q2e : List Nat} {q26 : Nat} {q2i : List Nat} {q27 : Nat} {q2f : List Nat} {r : Bool} (h : zb2 q11 q1d q16 q1g q17 q1h q24 q2e q26 q2i q27 q2f = some r) : zgi q11 q1d q16 q1g q17 q1h q24 q2e q26 q2i q27 q2f = true ∧ zfd q11 q1d q16 q1g q17 q1h q24 q2e q26 q2i q27 q2f = r := by
  unfold zgi zfd
  rw [h]
  exact ⟨rfl, rfl⟩
noncomputable def zam {R : Type} (a_n : Nat) (a : List Nat) (b_n : Nat) (b : List Nat) (k_ : Bool → Option R) : Option R := (br (neI (Int.ofNat a_n) (Int.ofNat b_n)) (k_ Bool.false) (grd (z9p a_n b_n a b 0) (br (z9e a_n b_n a b 0) (k_ Bool.false) (k_ Bool.true))))
noncomputable def zaj (a_n : Nat) (a : List Nat) (b_n : Nat) (b : List Nat) : Option (Bool) := zam a_n a b_n b (fun c0_ => some c0_)
theorem zlv {R R' : Type} (o : Option R → Option R') (h0 : o none = none) (a_n : Nat) (a : List Nat) (b_n : Nat) (b : List Nat) (k_ : Bool → Option R) : zam a_n a b_n b (fun c0_ => o (k_ c0_)) = o (zam a_n a b_n b k_) := by
  unfold zam
  repeat (first | refine grd_out h0 ?_ | refine br_out ?_ ?_ | rfl | exact h0.symm)
noncomputable def zf9 (a_n : Nat) (a : List Nat) (b_n : Nat) (b : List Nat) : Bool := (zaj a_n a b_n b).isSome
noncomputable def ze6 (a_n : Nat) (a : List Nat) (b_n : Nat) (b : List Nat) : Bool := ((zaj a_n a b_n b).getD default)
theorem znm {a_n : Nat} {a : List Nat} {b_n : Nat} {b : List Nat} {r : Bool} (h : zaj a_n a b_n b = some r) : zf9 a_n a b_n b = true ∧ ze6 a_n a b_n b = r := by
  unfold zf9 ze6
  rw [h]
  exact ⟨rfl, rfl⟩
noncomputable def zcl {R : Type} (x : Nat) (k_ : Nat → Option R) : Option R := (grd (zeo (fcvV FloatKind.f32 FloatKind.f64 x)) (grd (zcu (zar (fcvV FloatKind.f32 FloatKind.f64 x))) (k_ (zae (zar (fcvV FloatKind.f32 FloatKind.f64 x))))))
noncomputable def zb7 (x : Nat) : Option (Nat) := zcl x (fun c0_ => some c0_)
theorem znp {R R' : Type} (o : Option R → Option R') (h0 : o none = none) (x : Nat) (k_ : Nat → Option R) : zcl x (fun c0_ => o (k_ c0_)) = o (zcl x k_) := by
  unfold zcl
  repeat (first | refine grd_out h0 ?_ | refine br_out ?_ ?_ | rfl | exact h0.symm)
noncomputable def zg1 (x : Nat) : Bool := (zb7 x).isSome
noncomputable def z9q (x : Nat) : Nat := ((zb7 x).getD default)
theorem zkl {x : Nat} {r : Nat} (h : zb7 x = some r) : zg1 x = true ∧ z9q x = r := by
  unfold zg1 z9q
  rw [h]
  exact ⟨rfl, rfl⟩
noncomputable def z4x {R : Type} (s_n : Nat) (s : List Nat) (k_ : Int → Option R) : Option R := (grd (z46 s_n (Int.ofNat s_n) s 0) (br (z40 s_n (Int.ofNat s_n) s 0) (k_ (z66 s_n (Int.ofNat s_n) s 0)) (k_ (Int.negSucc 0))))
noncomputable def z4w (s_n : Nat) (s : List Nat) : Option (Int) := z4x s_n s (fun c0_ => some c0_)
theorem zez {R R' : Type} (o : Option R → Option R') (h0 : o none = none) (s_n : Nat) (s : List Nat) (k_ : Int → Option R) : z4x s_n s (fun c0_ => o (k_ c0_)) = o (z4x s_n s k_) := by
  unfold z4x
  repeat (first | refine grd_out h0 ?_ | refine br_out ?_ ?_ | rfl | exact h0.symm)
noncomputable def z72 (s_n : Nat) (s : List Nat) : Bool := (z4w s_n s).isSome
noncomputable def z6t (s_n : Nat) (s : List Nat) : Int := ((z4w s_n s).getD default)
theorem zgq {s_n : Nat} {s : List Nat} {r : Int} (h : z4w s_n s = some r) : z72 s_n s = true ∧ z6t s_n s = r := by
  unfold z72 z6t
  rw [h]
  exact ⟨rfl, rfl⟩
noncomputable def z4i {R : Type} (s_n : Nat) (s : List Nat) (k_ : Int → Option R) : Option R := (grd (z3u s_n (Int.ofNat s_n) s 0) (br (z3n s_n (Int.ofNat s_n) s 0) (k_ (z5z s_n (Int.ofNat s_n) s 0)) (k_ (Int.negSucc 0))))
noncomputable def z4k (s_n : Nat) (s : List Nat) : Option (Int) := z4i s_n s (fun c0_ => some c0_)
theorem ze7 {R R' : Type} (o : Option R → Option R') (h0 : o none = none) (s_n : Nat) (s : List Nat) (k_ : Int → Option R) : z4i s_n s (fun c0_ => o (k_ c0_)) = o (z4i s_n s k_) := by
  unfold z4i
  repeat (first | refine grd_out h0 ?_ | refine br_out ?_ ?_ | rfl | exact h0.symm)
noncomputable def z6p (s_n : Nat) (s : List Nat) : Bool := (z4k s_n s).isSome
noncomputable def z6i (s_n : Nat) (s : List Nat) : Int := ((z4k s_n s).getD default)
theorem zfo {s_n : Nat} {s : List Nat} {r : Int} (h : z4k s_n s = some r) : z6p s_n s = true ∧ z6i s_n s = r := by
  unfold z6p z6i
  rw [h]
  exact ⟨rfl, rfl⟩
noncomputable def zfy {R : Type} (q04 : Nat) (q08 : List Nat) (q0p : Nat) (q0t : List Nat) (q0o : Nat) (q0u : List Nat) (k_ : Bool → Option R) : Option R := (br (ltI (Int.ofNat q04) 2) (k_ Bool.false) (br (ltI 24 (Int.ofNat q04)) (k_ Bool.false) (br (neI (Int.ofNat q0p) (Int.ofNat q04)) (k_ Bool.false) (br (neI (Int.ofNat q0o) (Int.ofNat q04)) (k_ Bool.false) (grd (z94 (Int.ofNat q04) q08 q0t q0u q04 q0p q0o 0) (br (z8m (Int.ofNat q04) q08 q0t q0u q04 q0p q0o 0) (k_ Bool.false) (k_ Bool.true)))))))
noncomputable def zg3 (q04 : Nat) (q08 : List Nat) (q0p : Nat) (q0t : List Nat) (q0o : Nat) (q0u : List Nat) : Option (Bool) := zfy q04 q08 q0p q0t q0o q0u (fun c0_ => some c0_)
theorem zpn {R R' : Type} (o : Option R → Option R') (h0 : o none = none) (q04 : Nat) (q08 : List Nat) (q0p : Nat) (q0t : List Nat) (q0o : Nat) (q0u : List Nat) (k_ : Bool → Option R) : zfy q04 q08 q0p q0t q0o q0u (fun c0_ => o (k_ c0_)) = o (zfy q04 q08 q0p q0t q0o q0u k_) := by
  unfold zfy
  repeat (first | refine grd_out h0 ?_ | refine br_out ?_ ?_ | rfl | exact h0.symm)
noncomputable def zim (q04 : Nat) (q08 : List Nat) (q0p : Nat) (q0t : List Nat) (q0o : Nat) (q0u : List Nat) : Bool := (zg3 q04 q08 q0p q0t q0o q0u).isSome
noncomputable def zih (q04 : Nat) (q08 : List Nat) (q0p : Nat) (q0t : List Nat) (q0o : Nat) (q0u : List Nat) : Bool := ((zg3 q04 q08 q0p q0t q0o q0u).getD default)
theorem zr9 {q04 : Nat} {q08 : List Nat} {q0p : Nat} {q0t : List Nat} {q0o : Nat} {q0u : List Nat} {r : Bool} (h : zg3 q04 q08 q0p q0t q0o q0u = some r) : zim q04 q08 q0p q0t q0o q0u = true ∧ zih q04 q08 q0p q0t q0o q0u = r := by
  unfold zim zih
  rw [h]
  exact ⟨rfl, rfl⟩
noncomputable def z1s {R : Type} (sn : Nat) (t7 : Int) (b0 : List Nat) (t8 : Int) (kn_ : Int → Option R) (k0_ : Int → Option R) (k1_ : Int → Bool → Option R) : Option R := (br (ltI t8 t7) (grd (okIx t8 sn) (grd (zf6 (gF b0 (ixO 0 t8 1))) (br (zdz (gF b0 (ixO 0 t8 1))) (k0_ t8) (kn_ (addI IntKind.i64 t8 1))))) (k1_ t8 (ltI t8 t7)))
theorem zec {R R' : Type} (o : Option R → Option R') (h0 : o none = none) (sn : Nat) (t7 : Int) (b0 : List Nat) (t8 : Int) (kn_ : Int → Option R) (k0_ : Int → Option R) (k1_ : Int → Bool → Option R) : z1s sn t7 b0 t8 (fun t8' => o (kn_ t8')) (fun c0_ => o (k0_ c0_)) (fun c0_ c1_ => o (k1_ c0_ c1_)) = o (z1s sn t7 b0 t8 kn_ k0_ k1_) := by
  unfold z1s
  repeat (first | refine grd_out h0 ?_ | refine br_out ?_ ?_ | rfl | exact h0.symm)
noncomputable def z0p (sn : Nat) (t7 : Int) (b0 : List Nat) : Nat → Int → Option ((Int) ⊕ (Int × Bool))
  | 0, _ => none
  | n + 1, t8 => z1s sn t7 b0  t8  (fun t8' => z0p sn t7 b0 n t8') (fun c0_ => some (Sum.inl c0_)) (fun c0_ c1_ => some (Sum.inr (c0_, c1_)))
theorem z8u (sn : Nat) (t7 : Int) (b0 : List Nat) (n : Nat) (t8 : Int) : z0p sn t7 b0 (n + 1) t8 = z1s sn t7 b0  t8  (fun t8' => z0p sn t7 b0 n t8') (fun c0_ => some (Sum.inl c0_)) (fun c0_ c1_ => some (Sum.inr (c0_, c1_))) := rfl
noncomputable def z4h (sn : Nat) (t7 : Int) (b0 : List Nat) (t8 : Int) : Bool := (z0p sn t7 b0 big t8).isSome
noncomputable def z48 (sn : Nat) (t7 : Int) (b0 : List Nat) (t8 : Int) : Bool := oL (z0p sn t7 b0 big t8)
noncomputable def z6c (sn : Nat) (t7 : Int) (b0 : List Nat) (t8 : Int) : Int := ((tL (z0p sn t7 b0 big t8)).getD default)
noncomputable def z7r (sn : Nat) (t7 : Int) (b0 : List Nat) (t8 : Int) : Int := ((tR (z0p sn t7 b0 big t8)).getD default).1
noncomputable def z7s (sn : Nat) (t7 : Int) (b0 : List Nat) (t8 : Int) : Bool := ((tR (z0p sn t7 b0 big t8)).getD default).2
theorem zey {sn : Nat} {t7 : Int} {b0 : List Nat} {t8 : Int} {m : Nat} {r : Int} (hm : m = big) (h : z0p sn t7 b0 m t8 = some (Sum.inl r)) : z4h sn t7 b0 t8 = true ∧ z48 sn t7 b0 t8 = true ∧ z6c sn t7 b0 t8 = r := by
  subst hm
  unfold z4h z48 z6c
  rw [h]
  exact ⟨rfl, rfl, rfl⟩
theorem zf0 {sn : Nat} {t7 : Int} {b0 : List Nat} {t8 : Int} {m : Nat} {r : Int × Bool} (hm : m = big) (h : z0p sn t7 b0 m t8 = some (Sum.inr r)) : z4h sn t7 b0 t8 = true ∧ z48 sn t7 b0 t8 = false ∧ z7r sn t7 b0 t8 = r.1 ∧ z7s sn t7 b0 t8 = r.2 := by
  subst hm
  unfold z4h z48 z7r z7s
  rw [h]
  exact ⟨rfl, rfl, rfl, rfl⟩
noncomputable def zc8 {R : Type} (q0l : Nat) (q0q : List Nat) (q0m : Nat) (q0s : List Nat) (q0n : Nat) (q0r : List Nat) (q0z : Nat) (q14 : List Nat) (q1f : Int) (q1m : Nat) (q1n : Nat) (q1o : Nat) (q1t : List Nat) (q1q : Nat) (q1w : List Nat) (q1p : Nat) (q1v : List Nat) (q22 : Nat) (q25 : List Nat) (q2j : Int) (q2m : Nat) (q2n : Nat) (k_ : Bool → Option R) : Option R := (grd (zgi q0l (pF q0q 0 (muN q0l 1)) q0m (pF q0s 0 (muN q0m 1)) q0n (pF q0r 0 (muN q0n 1)) q1o (pF q1t 0 (muN q1o 1)) q1q (pF q1w 0 (muN q1q 1)) q1p (pF q1v 0 (muN q1p 1))) (br (bnot (zfd q0l (pF q0q 0 (muN q0l 1)) q0m (pF q0s 0 (muN q0m 1)) q0n (pF q0r 0 (muN q0n 1)) q1o (pF q1t 0 (muN q1o 1)) q1q (pF q1w 0 (muN q1q 1)) q1p (pF q1v 0 (muN q1p 1)))) (k_ Bool.false) (grd (zf9 q0z (pF q14 0 (muN q0z 3)) q22 (pF q25 0 (muN q22 3))) (br (bnot (ze6 q0z (pF q14 0 (muN q0z 3)) q22 (pF q25 0 (muN q22 3)))) (k_ Bool.false) (br (neI q1f q2j) (k_ Bool.false) (grd (z78 (fcvV FloatKind.f32 FloatKind.f64 q1m) (fcvV FloatKind.f32 FloatKind.f64 q2m)) (br (bnot (z6q (fcvV FloatKind.f32 FloatKind.f64 q1m) (fcvV FloatKind.f32 FloatKind.f64 q2m))) (k_ Bool.false) (grd (z78 (fcvV FloatKind.f32 FloatKind.f64 q1n) (fcvV FloatKind.f32 FloatKind.f64 q2n)) (br (bnot (z6q (fcvV FloatKind.f32 FloatKind.f64 q1n) (fcvV FloatKind.f32 FloatKind.f64 q2n))) (k_ Bool.false) (k_ Bool.true))))))))))
noncomputable def zcb (q0l : Nat) (q0q : List Nat) (q0m : Nat) (q0s : List Nat) (q0n : Nat) (q0r : List Nat) (q0z : Nat) (q14 : List Nat) (q1f : Int) (q1m : Nat) (q1n : Nat) (q1o : Nat) (q1t : List Nat) (q1q : Nat) (q1w : List Nat) (q1p : Nat) (q1v : List Nat) (q22 : Nat) (q25 : List Nat) (q2j : Int) (q2m : Nat) (q2n : Nat) : Option (Bool) := zc8 q0l q0q q0m q0s q0n q0r q0z q14 q1f q1m q1n q1o q1t q1q q1w q1p q1v q22 q25 q2j q2m q2n (fun c0_ => some c0_)
theorem zo8 {R R' : Type} (o : Option R → Option R') (h0 : o none = none) (q0l : Nat) (q0q : List Nat) (q0m : Nat) (q0s : List Nat) (q0n : Nat) (q0r : List Nat) (q0z : Nat) (q14 : List Nat) (q1f : Int) (q1m : Nat) (q1n : Nat) (q1o : Nat) (q1t : List Nat) (q1q : Nat) (q1w : List Nat) (q1p : Nat) (q1v : List Nat) (q22 : Nat) (q25 : List Nat) (q2j : Int) (q2m : Nat) (q2n : Nat) (k_ : Bool → Option R) : zc8 q0l q0q q0m q0s q0n q0r q0z q14 q1f q1m q1n q1o q1t q1q q1w q1p q1v q22 q25 q2j q2m q2n (fun c0_ => o (k_ c0_)) = o (zc8 q0l q0q q0m q0s q0n q0r q0z q14 q1f q1m q1n q1o q1t q1q q1w q1p q1v q22 q25 q2j q2m q2n k_) := by
  unfold zc8
  repeat (first | refine grd_out h0 ?_ | refine br_out ?_ ?_ | rfl | exact h0.symm)
noncomputable def zg6 (q0l : Nat) (q0q : List Nat) (q0m : Nat) (q0s : List Nat) (q0n : Nat) (q0r : List Nat) (q0z : Nat) (q14 : List Nat) (q1f : Int) (q1m : Nat) (q1n : Nat) (q1o : Nat) (q1t : List Nat) (q1q : Nat) (q1w : List Nat) (q1p : Nat) (q1v : List Nat) (q22 : Nat) (q25 : List Nat) (q2j : Int) (q2m : Nat) (q2n : Nat) : Bool := (zcb q0l q0q q0m q0s q0n q0r q0z q14 q1f q1m q1n q1o q1t q1q q1w q1p q1v q22 q25 q2j q2m q2n).isSome
noncomputable def ze1 (q0l : Nat) (q0q : List Nat) (q0m : Nat) (q0s : List Nat) (q0n : Nat) (q0r : List Nat) (q0z : Nat) (q14 : List Nat) (q1f : Int) (q1m : Nat) (q1n : Nat) (q1o : Nat) (q1t : List Nat) (q1q : Nat) (q1w : List Nat) (q1p : Nat) (q1v : List Nat) (q22 : Nat) (q25 : List Nat) (q2j : Int) (q2m : Nat) (q2n : Nat) : Bool := ((zcb q0l q0q q0m q0s q0n q0r q0z q14 q1f q1m q1n q1o q1t q1q q1w q1p q1v q22 q25 q2j q2m q2n).getD default)
theorem zq8 {q0l : Nat} {q0q : List Nat} {q0m : Nat} {q0s : List Nat} {q0n : Nat} {q0r : List Nat} {q0z : Nat} {q14 : List Nat} {q1f : Int} {q1m : Nat} {q1n : Nat} {q1o : Nat} {q1t : List Nat} {q1q : Nat} {q1w : List Nat} {q1p : Nat} {q1v : List Nat} {q22 : Nat} {q25 : List Nat} {q2j : Int} {q2m : Nat} {q2n : Nat} {r : Bool} (h : zcb q0l q0q q0m q0s q0n q0r q0z q14 q1f q1m q1n q1o q1t q1q q1w q1p q1v q22 q25 q2j q2m q2n = some r) : zg6 q0l q0q q0m q0s q0n q0r q0z q14 q1f q1m q1n q1o q1t q1q q1w q1p q1v q22 q25 q2j q2m q2n = true ∧ ze1 q0l q0q q0m q0s q0n q0r q0z q14 q1f q1m q1n q1o q1t q1q q1w q1p q1v q22 q25 q2j q2m q2n = r := by
  unfold zg6 ze1
  rw [h]
  exact ⟨rfl, rfl⟩
noncomputable def zfq {R : Type} (x : Nat) (k_ : Nat → Option R) : Option R := (grd (bnot (nanQ FloatKind.f64 x)) (k_ (fint Ieee.Toward.down x)))
noncomputable def zg5 (x : Nat) : Option (Nat) := zfq x (fun c0_ => some c0_)
theorem zp9 {R R' : Type} (o : Option R → Option R') (h0 : o none = none) (x : Nat) (k_ : Nat → Option R) : zfq x (fun c0_ => o (k_ c0_)) = o (zfq x k_) := by
  unfold zfq
  repeat (first | refine grd_out h0 ?_ | refine br_out ?_ ?_ | rfl | exact h0.symm)
noncomputable def zhk (x : Nat) : Bool := (zg5 x).isSome
noncomputable def z9a (x : Nat) : Nat := ((zg5 x).getD default)
theorem zn2 {x : Nat} {r : Nat} (h : zg5 x = some r) : zhk x = true ∧ z9a x = r := by
  unfold zhk z9a
  rw [h]
  exact ⟨rfl, rfl⟩
noncomputable def z5a {R : Type} (s_n : Nat) (s : List Nat) (k_ : Int → Option R) : Option R := (grd (z4h s_n (Int.ofNat s_n) s 0) (br (z48 s_n (Int.ofNat s_n) s 0) (k_ (z6c s_n (Int.ofNat s_n) s 0)) (k_ (Int.negSucc 0))))
noncomputable def z5c (s_n : Nat) (s : List Nat) : Option (Int) := z5a s_n s (fun c0_ => some c0_)
theorem zfk {R R' : Type} (o : Option R → Option R') (h0 : o none = none) (s_n : Nat) (s : List Nat) (k_ : Int → Option R) : z5a s_n s (fun c0_ => o (k_ c0_)) = o (z5a s_n s k_) := by
  unfold z5a
  repeat (first | refine grd_out h0 ?_ | refine br_out ?_ ?_ | rfl | exact h0.symm)
noncomputable def z7a (s_n : Nat) (s : List Nat) : Bool := (z5c s_n s).isSome
noncomputable def z73 (s_n : Nat) (s : List Nat) : Int := ((z5c s_n s).getD default)
theorem zgt {s_n : Nat} {s : List Nat} {r : Int} (h : z5c s_n s = some r) : z7a s_n s = true ∧ z73 s_n s = r := by
  unfold z7a z73
  rw [h]
  exact ⟨rfl, rfl⟩
noncomputable def z8q {R : Type} (u : Nat) (p : Nat) (k : Nat) (kn_ : Nat → Nat → Option R) (k0_ : Nat → Nat → Bool → Option R) : Option R := (br (fcmp BinOp.geq FloatKind.f64 k 4607182418800017408) (kn_ (fop BinOp.sub FloatKind.f64 4607182418800017408 (fop BinOp.quo FloatKind.f64 (fop BinOp.mul FloatKind.f64 u p) (fop BinOp.mul FloatKind.f64 (fop BinOp.mul FloatKind.f64 4611686018427387904 k) (fop BinOp.add FloatKind.f64 (fop BinOp.mul FloatKind.f64 4611686018427387904 k) 4607182418800017408)))) (fop BinOp.sub FloatKind.f64 k 4607182418800017408)) (k0_ p k (fcmp BinOp.geq FloatKind.f64 k 4607182418800017408)))
theorem znv {R R' : Type} (o : Option R → Option R') (h0 : o none = none) (u : Nat) (p : Nat) (k : Nat) (kn_ : Nat → Nat → Option R) (k0_ : Nat → Nat → Bool → Option R) : z8q u p k (fun p' k' => o (kn_ p' k')) (fun c0_ c1_ c2_ => o (k0_ c0_ c1_ c2_)) = o (z8q u p k kn_ k0_) := by
  unfold z8q
  repeat (first | refine grd_out h0 ?_ | refine br_out ?_ ?_ | rfl | exact h0.symm)
noncomputable def z6j (u : Nat) : Nat → Nat → Nat → Option ((Nat × Nat × Bool))
  | 0, _, _ => none
  | n + 1, p, k => z8q u  p k  (fun p' k' => z6j u n p' k') (fun c0_ c1_ c2_ => some (c0_, c1_, c2_))
theorem zit (u : Nat) (n : Nat) (p : Nat) (k : Nat) : z6j u (n + 1) p k = z8q u  p k  (fun p' k' => z6j u n p' k') (fun c0_ c1_ c2_ => some (c0_, c1_, c2_)) := rfl
noncomputable def z9i (u : Nat) (p : Nat) (k : Nat) : Bool := (z6j u big p k).isSome
noncomputable def z89 (u : Nat) (p : Nat) (k : Nat) : Nat := ((z6j u big p k).getD default).1
noncomputable def zi8 (u : Nat) (p : Nat) (k : Nat) : Nat := ((z6j u big p k).getD default).2.1
noncomputable def zi9 (u : Nat) (p : Nat) (k : Nat) : Bool := ((z6j u big p k).getD default).2.2
theorem zpf {u : Nat} {p : Nat} {k : Nat} {m : Nat} {r : Nat × Nat × Bool} (hm : m = big) (h : z6j u m p k = some r) : z9i u p k = true ∧ z89 u p k = r.1 ∧ zi8 u p k = r.2.1 ∧ zi9 u p k = r.2.2 := by
  subst hm
  unfold z9i z89 zi8 zi9
  rw [h]
  exact ⟨rfl, rfl, rfl, rfl⟩
noncomputable def zgy {R : Type} (q1x : Nat) (k_ : Nat → Option R) : Option R := (grd (zf1 q1x) (br (fcmp BinOp.geq FloatKind.f64 (z11 q1x) 4602678819172646912) (br (fcmp BinOp.gtr FloatKind.f64 (fop BinOp.sub FloatKind.f64 (z11 q1x) 4602678819172646912) 4598175219545276416) (grd (z9i (fop BinOp.mul FloatKind.f64 (fop BinOp.mul FloatKind.f64 (fop BinOp.sub FloatKind.f64 4602678819172646912 (fop BinOp.sub FloatKind.f64 (z11 q1x) 4602678819172646912)) 4618760256179416344) (fop BinOp.mul FloatKind.f64 (fop BinOp.sub FloatKind.f64 4602678819172646912 (fop BinOp.sub FloatKind.f64 (z11 q1x) 4602678819172646912)) 4618760256179416344)) 4607182418800017408 4620693217682128896) (k_ (fneg FloatKind.f64 (fop BinOp.mul FloatKind.f64 (fop BinOp.mul FloatKind.f64 (fop BinOp.sub FloatKind.f64 4602678819172646912 (fop BinOp.sub FloatKind.f64 (z11 q1x) 4602678819172646912)) 4618760256179416344) (z89 (fop BinOp.mul FloatKind.f64 (fop BinOp.mul FloatKind.f64 (fop BinOp.sub FloatKind.f64 4602678819172646912 (fop BinOp.sub FloatKind.f64 (z11 q1x) 4602678819172646912)) 4618760256179416344) (fop BinOp.mul FloatKind.f64 (fop BinOp.sub FloatKind.f64 4602678819172646912 (fop BinOp.sub FloatKind.f64 (z11 q1x) 4602678819172646912)) 4618760256179416344)) 4607182418800017408 4620693217682128896))))) (grd (z9i (fop BinOp.mul FloatKind.f64 (fop BinOp.mul FloatKind.f64 (fop BinOp.sub FloatKind.f64 (z11 q1x) 4602678819172646912) 4618760256179416344) (fop BinOp.mul FloatKind.f64 (fop BinOp.sub FloatKind.f64 (z11 q1x) 4602678819172646912) 4618760256179416344)) 4607182418800017408 4620693217682128896) (k_ (fneg FloatKind.f64 (fop BinOp.mul FloatKind.f64 (fop BinOp.mul FloatKind.f64 (fop BinOp.sub FloatKind.f64 (z11 q1x) 4602678819172646912) 4618760256179416344) (z89 (fop BinOp.mul FloatKind.f64 (fop BinOp.mul FloatKind.f64 (fop BinOp.sub FloatKind.f64 (z11 q1x) 4602678819172646912) 4618760256179416344) (fop BinOp.mul FloatKind.f64 (fop BinOp.sub FloatKind.f64 (z11 q1x) 4602678819172646912) 4618760256179416344)) 4607182418800017408 4620693217682128896)))))) (br (fcmp BinOp.gtr FloatKind.f64 (z11 q1x) 4598175219545276416) (grd (z9i (fop BinOp.mul FloatKind.f64 (fop BinOp.mul FloatKind.f64 (fop BinOp.sub FloatKind.f64 4602678819172646912 (z11 q1x)) 4618760256179416344) (fop BinOp.mul FloatKind.f64 (fop BinOp.sub FloatKind.f64 4602678819172646912 (z11 q1x)) 4618760256179416344)) 4607182418800017408 4620693217682128896) (k_ (fop BinOp.mul FloatKind.f64 (fop BinOp.mul FloatKind.f64 (fop BinOp.sub FloatKind.f64 4602678819172646912 (z11 q1x)) 4618760256179416344) (z89 (fop BinOp.mul FloatKind.f64 (fop BinOp.mul FloatKind.f64 (fop BinOp.sub FloatKind.f64 4602678819172646912 (z11 q1x)) 4618760256179416344) (fop BinOp.mul FloatKind.f64 (fop BinOp.sub FloatKind.f64 4602678819172646912 (z11 q1x)) 4618760256179416344)) 4607182418800017408 4620693217682128896)))) (grd (z9i (fop BinOp.mul FloatKind.f64 (fop BinOp.mul FloatKind.f64 (z11 q1x) 4618760256179416344) (fop BinOp.mul FloatKind.f64 (z11 q1x) 4618760256179416344)) 4607182418800017408 4620693217682128896) (k_ (fop BinOp.mul FloatKind.f64 (fop BinOp.mul FloatKind.f64 (z11 q1x) 4618760256179416344) (z89 (fop BinOp.mul FloatKind.f64 (fop BinOp.mul FloatKind.f64 (z11 q1x) 4618760256179416344) (fop BinOp.mul FloatKind.f64 (z11 q1x) 4618760256179416344)) 4607182418800017408 4620693217682128896)))))))
noncomputable def zh0 (q1x : Nat) : Option (Nat) := zgy q1x (fun c0_ => some c0_)
theorem zq9 {R R' : Type} (o : Option R → Option R') (h0 : o none = none) (q1x : Nat) (k_ : Nat → Option R) : zgy q1x (fun c0_ => o (k_ c0_)) = o (zgy q1x k_) := by
  unfold zgy
  repeat (first | refine grd_out h0 ?_ | refine br_out ?_ ?_ | rfl | exact h0.symm)
noncomputable def ziw (q1x : Nat) : Bool := (zh0 q1x).isSome
noncomputable def zhj (q1x : Nat) : Nat := ((zh0 q1x).getD default)
theorem zri {q1x : Nat} {r : Nat} (h : zh0 q1x = some r) : ziw q1x = true ∧ zhj q1x = r := by
  unfold ziw zhj
  rw [h]
  exact ⟨rfl, rfl⟩
noncomputable def zaw {R : Type} (x : Nat) (k_ : Nat → Option R) : Option R := (grd (zhk (fop BinOp.add FloatKind.f64 (fcvV FloatKind.f32 FloatKind.f64 x) 4602678819172646912)) (grd (fcvB FloatKind.f64 FloatKind.f32 (fop BinOp.sub FloatKind.f64 (fcvV FloatKind.f32 FloatKind.f64 x) (z9a (fop BinOp.add FloatKind.f64 (fcvV FloatKind.f32 FloatKind.f64 x) 4602678819172646912)))) (br (fcmp BinOp.geq FloatKind.f32 (fcvV FloatKind.f64 FloatKind.f32 (fop BinOp.sub FloatKind.f64 (fcvV FloatKind.f32 FloatKind.f64 x) (z9a (fop BinOp.add FloatKind.f64 (fcvV FloatKind.f32 FloatKind.f64 x) 4602678819172646912)))) 1056964608) (k_ 3204448256) (k_ (fcvV FloatKind.f64 FloatKind.f32 (fop BinOp.sub FloatKind.f64 (fcvV FloatKind.f32 FloatKind.f64 x) (z9a (fop BinOp.add FloatKind.f64 (fcvV FloatKind.f32 FloatKind.f64 x) 4602678819172646912))))))))
noncomputable def zat (x : Nat) : Option (Nat) := zaw x (fun c0_ => some c0_)
theorem zmq {R R' : Type} (o : Option R → Option R') (h0 : o none = none) (x : Nat) (k_ : Nat → Option R) : zaw x (fun c0_ => o (k_ c0_)) = o (zaw x k_) := by
  unfold zaw
  repeat (first | refine grd_out h0 ?_ | refine br_out ?_ ?_ | rfl | exact h0.symm)
noncomputable def zgr (x : Nat) : Bool := (zat x).isSome
noncomputable def z30 (x : Nat) : Nat := ((zat x).getD default)
theorem zp3 {x : Nat} {r : Nat} (h : zat x = some r) : zgr x = true ∧ z30 x = r := by
  unfold zgr z30
  rw [h]
  exact ⟨rfl, rfl⟩
noncomputable def z45 {R : Type} (s_n : Nat) (s : List Nat) (k_ : Bool → Option R) : Option R := (grd (z72 s_n (pF s 0 (muN s_n 1))) (k_ (leI 0 (z6t s_n (pF s 0 (muN s_n 1))))))
noncomputable def z47 (s_n : Nat) (s : List Nat) : Option (Bool) := z45 s_n s (fun c0_ => some c0_)
theorem zdl {R R' : Type} (o : Option R → Option R') (h0 : o none = none) (s_n : Nat) (s : List Nat) (k_ : Bool → Option R) : z45 s_n s (fun c0_ => o (k_ c0_)) = o (z45 s_n s k_) := by
  unfold z45
  repeat (first | refine grd_out h0 ?_ | refine br_out ?_ ?_ | rfl | exact h0.symm)
noncomputable def z6k (s_n : Nat) (s : List Nat) : Bool := (z47 s_n s).isSome
noncomputable def z6f (s_n : Nat) (s : List Nat) : Bool := ((z47 s_n s).getD default)
theorem zew {s_n : Nat} {s : List Nat} {r : Bool} (h : z47 s_n s = some r) : z6k s_n s = true ∧ z6f s_n s = r := by
  unfold z6k z6f
  rw [h]
  exact ⟨rfl, rfl⟩
noncomputable def z3s {R : Type} (s_n : Nat) (s : List Nat) (k_ : Bool → Option R) : Option R := (grd (z6p s_n (pF s 0 (muN s_n 1))) (k_ (leI 0 (z6i s_n (pF s 0 (muN s_n 1))))))
noncomputable def z3t (s_n : Nat) (s : List Nat) : Option (Bool) := z3s s_n s (fun c0_ => some c0_)
theorem zcr {R R' : Type} (o : Option R → Option R') (h0 : o none = none) (s_n : Nat) (s : List Nat) (k_ : Bool → Option R) : z3s s_n s (fun c0_ => o (k_ c0_)) = o (z3s s_n s k_) := by
  unfold z3s
  repeat (first | refine grd_out h0 ?_ | refine br_out ?_ ?_ | rfl | exact h0.symm)
noncomputable def z6e (s_n : Nat) (s : List Nat) : Bool := (z3t s_n s).isSome
noncomputable def z65 (s_n : Nat) (s : List Nat) : Bool := ((z3t s_n s).getD default)
theorem zef {s_n : Nat} {s : List Nat} {r : Bool} (h : z3t s_n s = some r) : z6e s_n s = true ∧ z65 s_n s = r := by
  unfold z6e z65
  rw [h]
  exact ⟨rfl, rfl⟩
noncomputable def z4j {R : Type} (s_n : Nat) (s : List Nat) (k_ : Bool → Option R) : Option R := (grd (z7a s_n (pF s 0 (muN s_n 1))) (k_ (leI 0 (z73 s_n (pF s 0 (muN s_n 1))))))
noncomputable def z4l (s_n : Nat) (s : List Nat) : Option (Bool) := z4j s_n s (fun c0_ => some c0_)
theorem ze0 {R R' : Type} (o : Option R → Option R') (h0 : o none = none) (s_n : Nat) (s : List Nat) (k_ : Bool → Option R) : z4j s_n s (fun c0_ => o (k_ c0_)) = o (z4j s_n s k_) := by
  unfold z4j
  repeat (first | refine grd_out h0 ?_ | refine br_out ?_ ?_ | rfl | exact h0.symm)
noncomputable def z6o (s_n : Nat) (s : List Nat) : Bool := (z4l s_n s).isSome
noncomputable def z6h (s_n : Nat) (s : List Nat) : Bool := ((z4l s_n s).getD default)
theorem zg4 {s_n : Nat} {s : List Nat} {r : Bool} (h : z4l s_n s = some r) : z6o s_n s = true ∧ z6h s_n s = r := by
  unfold z6o z6h
  rw [h]
  exact ⟨rfl, rfl⟩
noncomputable def zce {R : Type} (x : Nat) (k_ : Nat → Option R) : Option R := (grd (zhk (fop BinOp.add FloatKind.f64 (fcvV FloatKind.f32 FloatKind.f64 x) 4602678819172646912)) (grd (zcu (fop BinOp.sub FloatKind.f64 (fcvV FloatKind.f32 FloatKind.f64 x) (z9a (fop BinOp.add FloatKind.f64 (fcvV FloatKind.f32 FloatKind.f64 x) 4602678819172646912)))) (br (fcmp BinOp.geq FloatKind.f32 (zae (fop BinOp.sub FloatKind.f64 (fcvV FloatKind.f32 FloatKind.f64 x) (z9a (fop BinOp.add FloatKind.f64 (fcvV FloatKind.f32 FloatKind.f64 x) 4602678819172646912)))) 1056964608) (k_ 3204448256) (k_ (zae (fop BinOp.sub FloatKind.f64 (fcvV FloatKind.f32 FloatKind.f64 x) (z9a (fop BinOp.add FloatKind.f64 (fcvV FloatKind.f32 FloatKind.f64 x) 4602678819172646912))))))))
noncomputable def zci (x : Nat) : Option (Nat) := zce x (fun c0_ => some c0_)
theorem znx {R R' : Type} (o : Option R → Option R') (h0 : o none = none) (x : Nat) (k_ : Nat → Option R) : zce x (fun c0_ => o (k_ c0_)) = o (zce x k_) := by
  unfold zce
  repeat (first | refine grd_out h0 ?_ | refine br_out ?_ ?_ | rfl | exact h0.symm)
noncomputable def zhw (x : Nat) : Bool := (zci x).isSome
noncomputable def z01 (x : Nat) : Nat := ((zci x).getD default)
theorem zqd {x : Nat} {r : Nat} (h : zci x = some r) : zhw x = true ∧ z01 x = r := by
  unfold zhw z01
  rw [h]
  exact ⟨rfl, rfl⟩
noncomputable def z8d {R : Type} (t57 : Int) (b3 : List Nat) (q1u : Nat) (q1r : Nat) (t4 : Nat) (t58 : Int) (kn_ : Nat → Int → Option R) (k0_ : Unit → Option R) (k1_ : Nat → Int → Bool → Option R) : Option R := (br (ltI t58 t57) (grd (okIx t58 q1u) (br (bnot (fcmp BinOp.gtr FloatKind.f32 (gF b3 (ixO 0 t58 3)) t4)) (k0_ ()) (br (bnot (fcmp BinOp.lss FloatKind.f32 (gF b3 (ixO 0 t58 3)) q1r)) (k0_ ()) (grd (zh6 (gF b3 (Nat.succ (ixO 0 t58 3)))) (br (bnot (zgj (gF b3 (Nat.succ (ixO 0 t58 3))))) (k0_ ()) (grd (z51 (gF b3 (Nat.succ (Nat.succ (ixO 0 t58 3))))) (br (bnot (z4b (gF b3 (Nat.succ (Nat.succ (ixO 0 t58 3)))))) (k0_ ()) (kn_ (gF b3 (ixO 0 t58 3)) (addI IntKind.i64 t58 1))))))))) (k1_ t4 t58 (ltI t58 t57)))
theorem zn8 {R R' : Type} (o : Option R → Option R') (h0 : o none = none) (t57 : Int) (b3 : List Nat) (q1u : Nat) (q1r : Nat) (t4 : Nat) (t58 : Int) (kn_ : Nat → Int → Option R) (k0_ : Unit → Option R) (k1_ : Nat → Int → Bool → Option R) : z8d t57 b3 q1u q1r t4 t58 (fun t4' t58' => o (kn_ t4' t58')) (fun _ => o (k0_ ())) (fun c0_ c1_ c2_ => o (k1_ c0_ c1_ c2_)) = o (z8d t57 b3 q1u q1r t4 t58 kn_ k0_ k1_) := by
  unfold z8d
  repeat (first | refine grd_out h0 ?_ | refine br_out ?_ ?_ | rfl | exact h0.symm)
noncomputable def z56 (t57 : Int) (b3 : List Nat) (q1u : Nat) (q1r : Nat) : Nat → Nat → Int → Option ((Unit) ⊕ (Nat × Int × Bool))
  | 0, _, _ => none
  | n + 1, t4, t58 => z8d t57 b3 q1u q1r  t4 t58  (fun t4' t58' => z56 t57 b3 q1u q1r n t4' t58') (fun _ => some (Sum.inl ())) (fun c0_ c1_ c2_ => some (Sum.inr (c0_, c1_, c2_)))
theorem zik (t57 : Int) (b3 : List Nat) (q1u : Nat) (q1r : Nat) (n : Nat) (t4 : Nat) (t58 : Int) : z56 t57 b3 q1u q1r (n + 1) t4 t58 = z8d t57 b3 q1u q1r  t4 t58  (fun t4' t58' => z56 t57 b3 q1u q1r n t4' t58') (fun _ => some (Sum.inl ())) (fun c0_ c1_ c2_ => some (Sum.inr (c0_, c1_, c2_))) := rfl
noncomputable def z9v (t57 : Int) (b3 : List Nat) (q1u : Nat) (q1r : Nat) (t4 : Nat) (t58 : Int) : Bool := (z56 t57 b3 q1u q1r big t4 t58).isSome
noncomputable def z9d (t57 : Int) (b3 : List Nat) (q1u : Nat) (q1r : Nat) (t4 : Nat) (t58 : Int) : Bool := oL (z56 t57 b3 q1u q1r big t4 t58)
noncomputable def zhn (t57 : Int) (b3 : List Nat) (q1u : Nat) (q1r : Nat) (t4 : Nat) (t58 : Int) : Nat := ((tR (z56 t57 b3 q1u q1r big t4 t58)).getD default).1
noncomputable def zho (t57 : Int) (b3 : List Nat) (q1u : Nat) (q1r : Nat) (t4 : Nat) (t58 : Int) : Int := ((tR (z56 t57 b3 q1u q1r big t4 t58)).getD default).2.1
noncomputable def zhm (t57 : Int) (b3 : List Nat) (q1u : Nat) (q1r : Nat) (t4 : Nat) (t58 : Int) : Bool := ((tR (z56 t57 b3 q1u q1r big t4 t58)).getD default).2.2
theorem zor {t57 : Int} {b3 : List Nat} {q1u : Nat} {q1r : Nat} {t4 : Nat} {t58 : Int} {m : Nat} {r : Unit} (hm : m = big) (h : z56 t57 b3 q1u q1r m t4 t58 = some (Sum.inl r)) : z9v t57 b3 q1u q1r t4 t58 = true ∧ z9d t57 b3 q1u q1r t4 t58 = true := by
  subst hm
  unfold z9v z9d
  rw [h]
  exact ⟨rfl, rfl⟩
theorem zoi {t57 : Int} {b3 : List Nat} {q1u : Nat} {q1r : Nat} {t4 : Nat} {t58 : Int} {m : Nat} {r : Nat × Int × Bool} (hm : m = big) (h : z56 t57 b3 q1u q1r m t4 t58 = some (Sum.inr r)) : z9v t57 b3 q1u q1r t4 t58 = true ∧ z9d t57 b3 q1u q1r t4 t58 = false ∧ zhn t57 b3 q1u q1r t4 t58 = r.1 ∧ zho t57 b3 q1u q1r t4 t58 = r.2.1 ∧ zhm t57 b3 q1u q1r t4 t58 = r.2.2 := by
  subst hm
  unfold z9v z9d zhn zho zhm
  rw [h]
  exact ⟨rfl, rfl, rfl, rfl, rfl⟩
noncomputable def zb0 {R : Type} (q1c : Nat) (q1l : List Nat) (k_ : Bool → Option R) : Option R := (grd (z6k q1c (pF q1l 0 (muN q1c 1))) (k_ (bnot (z6f q1c (pF q1l 0 (muN q1c 1))))))
noncomputable def z9b (q1c : Nat) (q1l : List Nat) : Option (Bool) := zb0 q1c q1l (fun c0_ => some c0_)
theorem zmt {R R' : Type} (o : Option R → Option R') (h0 : o none = none) (q1c : Nat) (q1l : List Nat) (k_ : Bool → Option R) : zb0 q1c q1l (fun c0_ => o (k_ c0_)) = o (zb0 q1c q1l k_) := by
  unfold zb0
  repeat (first | refine grd_out h0 ?_ | refine br_out ?_ ?_ | rfl | exact h0.symm)
noncomputable def zcz (q1c : Nat) (q1l : List Nat) : Bool := (z9b q1c q1l).isSome
noncomputable def zby (q1c : Nat) (q1l : List Nat) : Bool := ((z9b q1c q1l).getD default)
theorem zje {q1c : Nat} {q1l : List Nat} {r : Bool} (h : z9b q1c q1l = some r) : zcz q1c q1l = true ∧ zby q1c q1l = r := by
  unfold zcz zby
  rw [h]
  exact ⟨rfl, rfl⟩
noncomputable def z9f {R : Type} (q1c : Nat) (q1l : List Nat) (k_ : Bool → Option R) : Option R := (grd (z6e q1c (pF q1l 0 (muN q1c 1))) (k_ (bnot (z65 q1c (pF q1l 0 (muN q1c 1))))))
noncomputable def z8h (q1c : Nat) (q1l : List Nat) : Option (Bool) := z9f q1c q1l (fun c0_ => some c0_)
theorem zl8 {R R' : Type} (o : Option R → Option R') (h0 : o none = none) (q1c : Nat) (q1l : List Nat) (k_ : Bool → Option R) : z9f q1c q1l (fun c0_ => o (k_ c0_)) = o (z9f q1c q1l k_) := by
  unfold z9f
  repeat (first | refine grd_out h0 ?_ | refine br_out ?_ ?_ | rfl | exact h0.symm)
noncomputable def zbg (q1c : Nat) (q1l : List Nat) : Bool := (z8h q1c q1l).isSome
noncomputable def zaq (q1c : Nat) (q1l : List Nat) : Bool := ((z8h q1c q1l).getD default)
theorem zn7 {q1c : Nat} {q1l : List Nat} {r : Bool} (h : z8h q1c q1l = some r) : zbg q1c q1l = true ∧ zaq q1c q1l = r := by
  unfold zbg zaq
  rw [h]
  exact ⟨rfl, rfl⟩
noncomputable def zbv {R : Type} (q1c : Nat) (q1l : List Nat) (k_ : Bool → Option R) : Option R := (grd (z6o q1c (pF q1l 0 (muN q1c 1))) (k_ (bnot (z6h q1c (pF q1l 0 (muN q1c 1))))))
noncomputable def zbl (q1c : Nat) (q1l : List Nat) : Option (Bool) := zbv q1c q1l (fun c0_ => some c0_)
theorem zn9 {R R' : Type} (o : Option R → Option R') (h0 : o none = none) (q1c : Nat) (q1l : List Nat) (k_ : Bool → Option R) : zbv q1c q1l (fun c0_ => o (k_ c0_)) = o (zbv q1c q1l k_) := by
  unfold zbv
  repeat (first | refine grd_out h0 ?_ | refine br_out ?_ ?_ | rfl | exact h0.symm)
noncomputable def zh4 (q1c : Nat) (q1l : List Nat) : Bool := (zbl q1c q1l).isSome
noncomputable def zgp (q1c : Nat) (q1l : List Nat) : Bool := ((zbl q1c q1l).getD default)
theorem zpk {q1c : Nat} {q1l : List Nat} {r : Bool} (h : zbl q1c q1l = some r) : zh4 q1c q1l = true ∧ zgp q1c q1l = r := by
  unfold zh4 zgp
  rw [h]
  exact ⟨rfl, rfl⟩
noncomputable def zb6 {R : Type} (x : Nat) (k_ : Nat → Option R) : Option R := (grd (z71 x) (br (bnot (z6m x)) (grd zio (grd (fcvB FloatKind.f64 FloatKind.f32 zgz) (k_ (fcvV FloatKind.f64 FloatKind.f32 zgz)))) (grd (zie (fcvV FloatKind.f32 FloatKind.f64 x)) (br (zhu (fcvV FloatKind.f32 FloatKind.f64 x)) (k_ 0) (grd (ziw (fcvV FloatKind.f32 FloatKind.f64 x)) (grd (fcvB FloatKind.f64 FloatKind.f32 (zhj (fcvV FloatKind.f32 FloatKind.f64 x))) (k_ (fcvV FloatKind.f64 FloatKind.f32 (zhj (fcvV FloatKind.f32 FloatKind.f64 x))))))))))
noncomputable def zay (x : Nat) : Option (Nat) := zb6 x (fun c0_ => some c0_)
theorem zmm {R R' : Type} (o : Option R → Option R') (h0 : o none = none) (x : Nat) (k_ : Nat → Option R) : zb6 x (fun c0_ => o (k_ c0_)) = o (zb6 x k_) := by
  unfold zb6
  repeat (first | refine grd_out h0 ?_ | refine br_out ?_ ?_ | rfl | exact h0.symm)
noncomputable def zd0 (x : Nat) : Bool := (zay x).isSome
noncomputable def z8v (x : Nat) : Nat := ((zay x).getD default)
theorem zja {x : Nat} {r : Nat} (h : zay x = some r) : zd0 x = true ∧ z8v x = r := by
  unfold zd0 z8v
  rw [h]
  exact ⟨rfl, rfl⟩
noncomputable def zfx {R : Type} (q00 : Nat) (q05 : List Nat) (q02 : Nat) (q07 : List Nat) (q01 : Nat) (q06 : List Nat) (q03 : Nat) (q0c : List Nat) (q0g : Int) (q0j : Nat) (q0i : Nat) (k_ : Bool → Option R) : Option R := (grd (zim q00 (pF q05 0 (muN q00 1)) q02 (pF q07 0 (muN q02 1)) q01 (pF q06 0 (muN q01 1))) (br (bnot (zih q00 (pF q05 0 (muN q00 1)) q02 (pF q07 0 (muN q02 1)) q01 (pF q06 0 (muN q01 1)))) (k_ Bool.false) (br (ltI (Int.ofNat q03) 2) (k_ Bool.false) (br (ltI 12 (Int.ofNat q03)) (k_ Bool.false) (grd (zhq q0g 1 6) (br (bnot (zgv q0g 1 6)) (k_ Bool.false) (grd (z91 q0j) (br (bnot (z8j q0j)) (k_ Bool.false) (grd (z51 q0i) (br (bnot (z4b q0i)) (k_ Bool.false) (grd (z9v (Int.ofNat q03) q0c q03 q0i q0j 0) (br (z9d (Int.ofNat q03) q0c q03 q0i q0j 0) (k_ Bool.false) (k_ Bool.true)))))))))))))
noncomputable def zfp (q00 : Nat) (q05 : List Nat) (q02 : Nat) (q07 : List Nat) (q01 : Nat) (q06 : List Nat) (q03 : Nat) (q0c : List Nat) (q0g : Int) (q0j : Nat) (q0i : Nat) : Option (Bool) := zfx q00 q05 q02 q07 q01 q06 q03 q0c q0g q0j q0i (fun c0_ => some c0_)
theorem zpr {R R' : Type} (o : Option R → Option R') (h0 : o none = none) (q00 : Nat) (q05 : List Nat) (q02 : Nat) (q07 : List Nat) (q01 : Nat) (q06 : List Nat) (q03 : Nat) (q0c : List Nat) (q0g : Int) (q0j : Nat) (q0i : Nat) (k_ : Bool → Option R) : zfx q00 q05 q02 q07 q01 q06 q03 q0c q0g q0j q0i (fun c0_ => o (k_ c0_)) = o (zfx q00 q05 q02 q07 q01 q06 q03 q0c q0g q0j q0i k_) := by
  unfold zfx
  repeat (first | refine grd_out h0 ?_ | refine br_out ?_ ?_ | rfl | exact h0.symm)
noncomputable def zil (q00 : Nat) (q05 : List Nat) (q02 : Nat) (q07 : List Nat) (q01 : Nat) (q06 : List Nat) (q03 : Nat) (q0c : List Nat) (q0g : Int) (q0j : Nat) (q0i : Nat) : Bool := (zfp q00 q05 q02 q07 q01 q06 q03 q0c q0g q0j q0i).isSome
noncomputable def zig (q00 : Nat) (q05 : List Nat) (q02 : Nat) (q07 : List Nat) (q01 : Nat) (q06 : List Nat) (q03 : Nat) (q0c : List Nat) (q0g : Int) (q0j : Nat) (q0i : Nat) : Bool := ((zfp q00 q05 q02 q07 q01 q06 q03 q0c q0g q0j q0i).getD default)
theorem zrd {q00 : Nat} {q05 : List Nat} {q02 : Nat} {q07 : List Nat} {q01 : Nat} {q06 : List Nat} {q03 : Nat} {q0c : List Nat} {q0g : Int} {q0j : Nat} {q0i : Nat} {r : Bool} (h : zfp q00 q05 q02 q07 q01 q06 q03 q0c q0g q0j q0i = some r) : zil q00 q05 q02 q07 q01 q06 q03 q0c q0g q0j q0i = true ∧ zig q00 q05 q02 q07 q01 q06 q03 q0c q0g q0j q0i = r := by
  unfold zil zig
  rw [h]
  exact ⟨rfl, rfl⟩
noncomputable def za9 {R : Type} (x : Nat) (y : Nat) (k_ : Nat → Nat → Bool → Option R) : Option R := (grd (zcz 2 (pF [x, y] 0 (muN 2 1))) (br (bnot (zby 2 (pF [x, y] 0 (muN 2 1)))) (k_ 0 0 Bool.false) (k_ x y Bool.true)))
noncomputable def z8a (x : Nat) (y : Nat) : Option (Nat × Nat × Bool) := za9 x y (fun c0_ c1_ c2_ => some (c0_, c1_, c2_))
theorem zla {R R' : Type} (o : Option R → Option R') (h0 : o none = none) (x : Nat) (y : Nat) (k_ : Nat → Nat → Bool → Option R) : za9 x y (fun c0_ c1_ c2_ => o (k_ c0_ c1_ c2_)) = o (za9 x y k_) := by
  unfold za9
  repeat (first | refine grd_out h0 ?_ | refine br_out ?_ ?_ | rfl | exact h0.symm)
noncomputable def zff (x : Nat) (y : Nat) : Bool := (z8a x y).isSome
noncomputable def ze4 (x : Nat) (y : Nat) : Nat := ((z8a x y).getD default).1
noncomputable def zei (x : Nat) (y : Nat) : Nat := ((z8a x y).getD default).2.1
noncomputable def zdx (x : Nat) (y : Nat) : Bool := ((z8a x y).getD default).2.2
theorem zns {x : Nat} {y : Nat} {r : Nat × Nat × Bool} (h : z8a x y = some r) : zff x y = true ∧ ze4 x y = r.1 ∧ zei x y = r.2.1 ∧ zdx x y = r.2.2 := by
  unfold zff ze4 zei zdx
  rw [h]
  exact ⟨rfl, rfl, rfl, rfl⟩
noncomputable def za4 {R : Type} (q09 : Nat) (q0d : List Nat) (q0a : Nat) (q0e : List Nat) (q0b : Nat) (q0f : List Nat) (q0h : Nat) (q0k : List Nat) (q0w : Int) (q13 : Nat) (q12 : Nat) (i : Int) (k_ : Bool → Option R) : Option R := (grd (zil q09 (pF q0d 0 (muN q09 1)) q0a (pF q0e 0 (muN q0a 1)) q0b (pF q0f 0 (muN q0b 1)) q0h (pF q0k 0 (muN q0h 3)) q0w q13 q12) (br (zig q09 (pF q0d 0 (muN q09 1)) q0a (pF q0e 0 (muN q0a 1)) q0b (pF q0f 0 (muN q0b 1)) q0h (pF q0k 0 (muN q0h 3)) q0w q13 q12) (grd (zhq i 0 (subI IntKind.i64 (Int.ofNat q0h) 1)) (k_ (zgv i 0 (subI IntKind.i64 (Int.ofNat q0h) 1)))) (k_ Bool.false)))
noncomputable def za0 (q09 : Nat) (q0d : List Nat) (q0a : Nat) (q0e : List Nat) (q0b : Nat) (q0f : List Nat) (q0h : Nat) (q0k : List Nat) (q0w : Int) (q13 : Nat) (q12 : Nat) (i : Int) : Option (Bool) := za4 q09 q0d q0a q0e q0b q0f q0h q0k q0w q13 q12 i (fun c0_ => some c0_)
theorem zlo {R R' : Type} (o : Option R → Option R') (h0 : o none = none) (q09 : Nat) (q0d : List Nat) (q0a : Nat) (q0e : List Nat) (q0b : Nat) (q0f : List Nat) (q0h : Nat) (q0k : List Nat) (q0w : Int) (q13 : Nat) (q12 : Nat) (i : Int) (k_ : Bool → Option R) : za4 q09 q0d q0a q0e q0b q0f q0h q0k q0w q13 q12 i (fun c0_ => o (k_ c0_)) = o (za4 q09 q0d q0a q0e q0b q0f q0h q0k q0w q13 q12 i k_) := by
  unfold za4
  repeat (first | refine grd_out h0 ?_ | refine br_out ?_ ?_ | rfl | exact h0.symm)
noncomputable def zfb (q09 : Nat) (q0d : List Nat) (q0a : Nat) (q0e : List Nat) (q0b : Nat) (q0f : List Nat) (q0h : Nat) (q0k : List Nat) (q0w : Int) (q13 : Nat) (q12 : Nat) (i : Int) : Bool := (za0 q09 q0d q0a q0e q0b q0f q0h q0k q0w q13 q12 i).isSome
noncomputable def zdw (q09 : Nat) (q0d : List Nat) (q0a : Nat) (q0e : List Nat) (q0b : Nat) (q0f : List Nat) (q0h : Nat) (q0k : List Nat) (q0w : Int) (q13 : Nat) (q12 : Nat) (i : Int) : Bool := ((za0 q09 q0d q0a q0e q0b q0f q0h q0k q0w q13 q12 i).getD default)
theorem zo6 {q09 : Nat} {q0d : List Nat} {q0a : Nat} {q0e : List Nat} {q0b : Nat} {q0f : List Nat} {q0h : Nat} {q0k : List Nat} {q0w : Int} {q13 : Nat} {q12 : Nat} {i : Int} {r : Bool} (h : za0 q09 q0d q0a q0e q0b q0f q0h q0k q0w q13 q12 i = some r) : zfb q09 q0d q0a q0e q0b q0f q0h q0k q0w q13 q12 i = true ∧ zdw q09 q0d q0a q0e q0b q0f q0h q0k q0w q13 q12 i = r := by
  unfold zfb zdw
  rw [h]
  exact ⟨rfl, rfl⟩
noncomputable def z1a {R : Type} (sn : Nat) (t7 : Int) (b0 : List Nat) (b4 : Nat) (t8 : Int) (kn_ : Int → Option R) (k0_ : Int → Option R) (k1_ : Int → Bool → Option R) : Option R := (br (ltI t8 t7) (grd (okIx t8 sn) (br (fcmp BinOp.gtr FloatKind.f32 (gF b0 (ixO 0 t8 1)) b4) (k0_ t8) (kn_ (addI IntKind.i64 t8 1)))) (k1_ t8 (ltI t8 t7)))
theorem zca {R R' : Type} (o : Option R → Option R') (h0 : o none = none) (sn : Nat) (t7 : Int) (b0 : List Nat) (b4 : Nat) (t8 : Int) (kn_ : Int → Option R) (k0_ : Int → Option R) (k1_ : Int → Bool → Option R) : z1a sn t7 b0 b4 t8 (fun t8' => o (kn_ t8')) (fun c0_ => o (k0_ c0_)) (fun c0_ c1_ => o (k1_ c0_ c1_)) = o (z1a sn t7 b0 b4 t8 kn_ k0_ k1_) := by
  unfold z1a
  repeat (first | refine grd_out h0 ?_ | refine br_out ?_ ?_ | rfl | exact h0.symm)
noncomputable def z0c (sn : Nat) (t7 : Int) (b0 : List Nat) (b4 : Nat) : Nat → Int → Option ((Int) ⊕ (Int × Bool))
  | 0, _ => none
  | n + 1, t8 => z1a sn t7 b0 b4  t8  (fun t8' => z0c sn t7 b0 b4 n t8') (fun c0_ => some (Sum.inl c0_)) (fun c0_ c1_ => some (Sum.inr (c0_, c1_)))
theorem z8e (sn : Nat) (t7 : Int) (b0 : List Nat) (b4 : Nat) (n : Nat) (t8 : Int) : z0c sn t7 b0 b4 (n + 1) t8 = z1a sn t7 b0 b4  t8  (fun t8' => z0c sn t7 b0 b4 n t8') (fun c0_ => some (Sum.inl c0_)) (fun c0_ c1_ => some (Sum.inr (c0_, c1_))) := rfl
noncomputable def z3j (sn : Nat) (t7 : Int) (b0 : List Nat) (b4 : Nat) (t8 : Int) : Bool := (z0c sn t7 b0 b4 big t8).isSome
noncomputable def z3f (sn : Nat) (t7 : Int) (b0 : List Nat) (b4 : Nat) (t8 : Int) : Bool := oL (z0c sn t7 b0 b4 big t8)
noncomputable def z0q (sn : Nat) (t7 : Int) (b0 : List Nat) (b4 : Nat) (t8 : Int) : Int := ((tL (z0c sn t7 b0 b4 big t8)).getD default)
noncomputable def z76 (sn : Nat) (t7 : Int) (b0 : List Nat) (b4 : Nat) (t8 : Int) : Int := ((tR (z0c sn t7 b0 b4 big t8)).getD default).1
noncomputable def z74 (sn : Nat) (t7 : Int) (b0 : List Nat) (b4 : Nat) (t8 : Int) : Bool := ((tR (z0c sn t7 b0 b4 big t8)).getD default).2
theorem zd6 {sn : Nat} {t7 : Int} {b0 : List Nat} {b4 : Nat} {t8 : Int} {m : Nat} {r : Int} (hm : m = big) (h : z0c sn t7 b0 b4 m t8 = some (Sum.inl r)) : z3j sn t7 b0 b4 t8 = true ∧ z3f sn t7 b0 b4 t8 = true ∧ z0q sn t7 b0 b4 t8 = r := by
  subst hm
  unfold z3j z3f z0q
  rw [h]
  exact ⟨rfl, rfl, rfl⟩
theorem zd5 {sn : Nat} {t7 : Int} {b0 : List Nat} {b4 : Nat} {t8 : Int} {m : Nat} {r : Int × Bool} (hm : m = big) (h : z0c sn t7 b0 b4 m t8 = some (Sum.inr r)) : z3j sn t7 b0 b4 t8 = true ∧ z3f sn t7 b0 b4 t8 = false ∧ z76 sn t7 b0 b4 t8 = r.1 ∧ z74 sn t7 b0 b4 t8 = r.2 := by
  subst hm
  unfold z3j z3f z76 z74
  rw [h]
  exact ⟨rfl, rfl, rfl, rfl⟩
noncomputable def z7t {R : Type} (t8 : Nat) (b0 : List Nat) (q18 : Nat) (t10 : Int) (kn_ : Int → Option R) (k0_ : Int → Bool → Option R) : Option R := (br (leI 0 t10) (grd (okIx t10 q18) (br (fcmp BinOp.gtr FloatKind.f32 (gF b0 (ixO 0 t10 1)) t8) (kn_ (subI IntKind.i64 t10 1)) (k0_ t10 (fcmp BinOp.gtr FloatKind.f32 (gF b0 (ixO 0 t10 1)) t8)))) (k0_ t10 Bool.false))
theorem zlp {R R' : Type} (o : Option R → Option R') (h0 : o none = none) (t8 : Nat) (b0 : List Nat) (q18 : Nat) (t10 : Int) (kn_ : Int → Option R) (k0_ : Int → Bool → Option R) : z7t t8 b0 q18 t10 (fun t10' => o (kn_ t10')) (fun c0_ c1_ => o (k0_ c0_ c1_)) = o (z7t t8 b0 q18 t10 kn_ k0_) := by
  unfold z7t
  repeat (first | refine grd_out h0 ?_ | refine br_out ?_ ?_ | rfl | exact h0.symm)
noncomputable def z68 (t8 : Nat) (b0 : List Nat) (q18 : Nat) : Nat → Int → Option ((Int × Bool))
  | 0, _ => none
  | n + 1, t10 => z7t t8 b0 q18  t10  (fun t10' => z68 t8 b0 q18 n t10') (fun c0_ c1_ => some (c0_, c1_))
theorem zib (t8 : Nat) (b0 : List Nat) (q18 : Nat) (n : Nat) (t10 : Int) : z68 t8 b0 q18 (n + 1) t10 = z7t t8 b0 q18  t10  (fun t10' => z68 t8 b0 q18 n t10') (fun c0_ c1_ => some (c0_, c1_)) := rfl
noncomputable def zfc (t8 : Nat) (b0 : List Nat) (q18 : Nat) (t10 : Int) : Bool := (z68 t8 b0 q18 big t10).isSome
noncomputable def z00 (t8 : Nat) (b0 : List Nat) (q18 : Nat) (t10 : Int) : Int := ((z68 t8 b0 q18 big t10).getD default).1
noncomputable def zgm (t8 : Nat) (b0 : List Nat) (q18 : Nat) (t10 : Int) : Bool := ((z68 t8 b0 q18 big t10).getD default).2
theorem ziv {t8 : Nat} {b0 : List Nat} {q18 : Nat} {t10 : Int} {m : Nat} {r : Int × Bool} (hm : m = big) (h : z68 t8 b0 q18 m t10 = some r) : zfc t8 b0 q18 t10 = true ∧ z00 t8 b0 q18 t10 = r.1 ∧ zgm t8 b0 q18 t10 = r.2 := by
  subst hm
  unfold zfc z00 zgm
  rw [h]
  exact ⟨rfl, rfl, rfl⟩
noncomputable def z7p {R : Type} (q04 : Nat) (q08 : List Nat) (q0p : Nat) (q0t : List Nat) (q0o : Nat) (q0u : List Nat) (x1 : Nat) (k_ : Int → Int → Nat → Nat → Nat → Option R) : Option R := (grd (zgr x1) (grd (z3j q04 (Int.ofNat q04) q08 (z30 x1) 0) (br (z3f q04 (Int.ofNat q04) q08 (z30 x1) 0) (br (eqI (z0q q04 (Int.ofNat q04) q08 (z30 x1) 0) 0) (grd (okIx (subI IntKind.i64 (Int.ofNat q04) 1) q04) (grd (okIx 0 q04) (k_ (subI IntKind.i64 (Int.ofNat q04) 1) 0 (fop BinOp.sub FloatKind.f32 (gF q08 (ixO 0 (subI IntKind.i64 (Int.ofNat q04) 1) 1)) 1065353216) (gF q08 (ixO 0 0 1)) (z30 x1)))) (br (ltI (z0q q04 (Int.ofNat q04) q08 (z30 x1) 0) 0) (grd (okIx (subI IntKind.i64 (Int.ofNat q04) 1) q04) (grd (okIx 0 q04) (k_ (subI IntKind.i64 (Int.ofNat q04) 1) 0 (gF q08 (ixO 0 (subI IntKind.i64 (Int.ofNat q04) 1) 1)) (fop BinOp.add FloatKind.f32 (gF q08 (ixO 0 0 1)) 1065353216) (z30 x1)))) (grd (okIx (subI IntKind.i64 (z0q q04 (Int.ofNat q04) q08 (z30 x1) 0) 1) q04) (grd (okIx (z0q q04 (Int.ofNat q04) q08 (z30 x1) 0) q04) (k_ (subI IntKind.i64 (z0q q04 (Int.ofNat q04) q08 (z30 x1) 0) 1) (z0q q04 (Int.ofNat q04) q08 (z30 x1) 0) (gF q08 (ixO 0 (subI IntKind.i64 (z0q q04 (Int.ofNat q04) q08 (z30 x1) 0) 1) 1)) (gF q08 (ixO 0 (z0q q04 (Int.ofNat q04) q08 (z30 x1) 0) 1)) (z30 x1)))))) (br (eqI (Int.negSucc 0) 0) (grd (okIx (subI IntKind.i64 (Int.ofNat q04) 1) q04) (grd (okIx 0 q04) (k_ (subI IntKind.i64 (Int.ofNat q04) 1) 0 (fop BinOp.sub FloatKind.f32 (gF q08 (ixO 0 (subI IntKind.i64 (Int.ofNat q04) 1) 1)) 1065353216) (gF q08 (ixO 0 0 1)) (z30 x1)))) (br (ltI (Int.negSucc 0) 0) (grd (okIx (subI IntKind.i64 (Int.ofNat q04) 1) q04) (grd (okIx 0 q04) (k_ (subI IntKind.i64 (Int.ofNat q04) 1) 0 (gF q08 (ixO 0 (subI IntKind.i64 (Int.ofNat q04) 1) 1)) (fop BinOp.add FloatKind.f32 (gF q08 (ixO 0 0 1)) 1065353216) (z30 x1)))) (grd (okIx (subI IntKind.i64 (Int.negSucc 0) 1) q04) (grd (okIx (Int.negSucc 0) q04) (k_ (subI IntKind.i64 (Int.negSucc 0) 1) (Int.negSucc 0) (gF q08 (ixO 0 (subI IntKind.i64 (Int.negSucc 0) 1) 1)) (gF q08 (ixO 0 (Int.negSucc 0) 1)) (z30 x1)))))))))
noncomputable def z5i (q04 : Nat) (q08 : List Nat) (q0p : Nat) (q0t : List Nat) (q0o : Nat) (q0u : List Nat) (x1 : Nat) : Option (Int × Int × Nat × Nat × Nat) := z7p q04 q08 q0p q0t q0o q0u x1 (fun c0_ c1_ c2_ c3_ c4_ => some (c0_, c1_, c2_, c3_, c4_))
theorem zj5 {R R' : Type} (o : Option R → Option R') (h0 : o none = none) (q04 : Nat) (q08 : List Nat) (q0p : Nat) (q0t : List Nat) (q0o : Nat) (q0u : List Nat) (x1 : Nat) (k_ : Int → Int → Nat → Nat → Nat → Option R) : z7p q04 q08 q0p q0t q0o q0u x1 (fun c0_ c1_ c2_ c3_ c4_ => o (k_ c0_ c1_ c2_ c3_ c4_)) = o (z7p q04 q08 q0p q0t q0o q0u x1 k_) := by
  unfold z7p
  repeat (first | refine grd_out h0 ?_ | refine br_out ?_ ?_ | rfl | exact h0.symm)
noncomputable def zbe (q04 : Nat) (q08 : List Nat) (q0p : Nat) (q0t : List Nat) (q0o : Nat) (q0u : List Nat) (x1 : Nat) : Bool := (z5i q04 q08 q0p q0t q0o q0u x1).isSome
noncomputable def z62 (q04 : Nat) (q08 : List Nat) (q0p : Nat) (q0t : List Nat) (q0o : Nat) (q0u : List Nat) (x1 : Nat) : Int := ((z5i q04 q08 q0p q0t q0o q0u x1).getD default).1
noncomputable def z61 (q04 : Nat) (q08 : List Nat) (q0p : Nat) (q0t : List Nat) (q0o : Nat) (q0u : List Nat) (x1 : Nat) : Int := ((z5i q04 q08 q0p q0t q0o q0u x1).getD default).2.1
noncomputable def z6n (q04 : Nat) (q08 : List Nat) (q0p : Nat) (q0t : List Nat) (q0o : Nat) (q0u : List Nat) (x1 : Nat) : Nat := ((z5i q04 q08 q0p q0t q0o q0u x1).getD default).2.2.1
noncomputable def z7z (q04 : Nat) (q08 : List Nat) (q0p : Nat) (q0t : List Nat) (q0o : Nat) (q0u : List Nat) (x1 : Nat) : Nat := ((z5i q04 q08 q0p q0t q0o q0u x1).getD default).2.2.2.1
noncomputable def z8r (q04 : Nat) (q08 : List Nat) (q0p : Nat) (q0t : List Nat) (q0o : Nat) (q0u : List Nat) (x1 : Nat) : Nat := ((z5i q04 q08 q0p q0t q0o q0u x1).getD default).2.2.2.2
theorem zkf {q04 : Nat} {q08 : List Nat} {q0p : Nat} {q0t : List Nat} {q0o : Nat} {q0u : List Nat} {x1 : Nat} {r : Int × Int × Nat × Nat × Nat} (h : z5i q04 q08 q0p q0t q0o q0u x1 = some r) : zbe q04 q08 q0p q0t q0o q0u x1 = true ∧ z62 q04 q08 q0p q0t q0o q0u x1 = r.1 ∧ z61 q04 q08 q0p q0t q0o q0u x1 = r.2.1 ∧ z6n q04 q08 q0p q0t q0o q0u x1 = r.2.2.1 ∧ z7z q04 q08 q0p q0t q0o q0u x1 = r.2.2.2.1 ∧ z8r q04 q08 q0p q0t q0o q0u x1 = r.2.2.2.2 := by
  unfold zbe z62 z61 z6n z7z z8r
  rw [h]
  exact ⟨rfl, rfl, rfl, rfl, rfl, rfl⟩
noncomputable def zbb {R : Type} (q04 : Nat) (q08 : List Nat) (q0p : Nat) (q0t : List Nat) (q0o : Nat) (q0u : List Nat) (x1 : Nat) (k_ : Int → Int → Nat → Nat → Option R) : Option R := (grd (zhw x1) (grd (zfc (z01 x1) q08 q04 (subI IntKind.i64 (Int.ofNat q04) 1)) (br (ltI (z00 (z01 x1) q08 q04 (subI IntKind.i64 (Int.ofNat q04) 1)) 0) (grd (okIx (subI IntKind.i64 (Int.ofNat q04) 1) q04) (grd (okIx 0 q04) (br (eqI 0 0) (br (fcmp BinOp.lss FloatKind.f32 (z01 x1) (gF q08 (ixO 0 0 1))) (br (fcmp BinOp.eql FloatKind.f32 (fop BinOp.sub FloatKind.f32 (gF q08 (ixO 0 0 1)) (fop BinOp.sub FloatKind.f32 (gF q08 (ixO 0 (subI IntKind.i64 (Int.ofNat q04) 1) 1)) 1065353216)) 0) (k_ (subI IntKind.i64 (Int.ofNat q04) 1) 0 0 (fop BinOp.sub FloatKind.f32 (gF q08 (ixO 0 0 1)) (fop BinOp.sub FloatKind.f32 (gF q08 (ixO 0 (subI IntKind.i64 (Int.ofNat q04) 1) 1)) 1065353216))) (k_ (subI IntKind.i64 (Int.ofNat q04) 1) 0 (fop BinOp.quo FloatKind.f32 (fop BinOp.sub FloatKind.f32 (z01 x1) (fop BinOp.sub FloatKind.f32 (gF q08 (ixO 0 (subI IntKind.i64 (Int.ofNat q04) 1) 1)) 1065353216)) (fop BinOp.sub FloatKind.f32 (gF q08 (ixO 0 0 1)) (fop BinOp.sub FloatKind.f32 (gF q08 (ixO 0 (subI IntKind.i64 (Int.ofNat q04) 1) 1)) 1065353216))) (fop BinOp.sub FloatKind.f32 (gF q08 (ixO 0 0 1)) (fop BinOp.sub FloatKind.f32 (gF q08 (ixO 0 (subI IntKind.i64 (Int.ofNat q04) 1) 1)) 1065353216)))) (br (eqI 0 0) (br (fcmp BinOp.eql FloatKind.f32 (fop BinOp.sub FloatKind.f32 (fop BinOp.add FloatKind.f32 (gF q08 (ixO 0 0 1)) 1065353216) (gF q08 (ixO 0 (subI IntKind.i64 (Int.ofNat q04) 1) 1))) 0) (k_ (subI IntKind.i64 (Int.ofNat q04) 1) 0 0 (fop BinOp.sub FloatKind.f32 (fop BinOp.add FloatKind.f32 (gF q08 (ixO 0 0 1)) 1065353216) (gF q08 (ixO 0 (subI IntKind.i64 (Int.ofNat q04) 1) 1)))) (k_ (subI IntKind.i64 (Int.ofNat q04) 1) 0 (fop BinOp.quo FloatKind.f32 (fop BinOp.sub FloatKind.f32 (z01 x1) (gF q08 (ixO 0 (subI IntKind.i64 (Int.ofNat q04) 1) 1))) (fop BinOp.sub FloatKind.f32 (fop BinOp.add FloatKind.f32 (gF q08 (ixO 0 0 1)) 1065353216) (gF q08 (ixO 0 (subI IntKind.i64 (Int.ofNat q04) 1) 1)))) (fop BinOp.sub FloatKind.f32 (fop BinOp.add FloatKind.f32 (gF q08 (ixO 0 0 1)) 1065353216) (gF q08 (ixO 0 (subI IntKind.i64 (Int.ofNat q04) 1) 1))))) (br (fcmp BinOp.eql FloatKind.f32 (fop BinOp.sub FloatKind.f32 (gF q08 (ixO 0 0 1)) (gF q08 (ixO 0 (subI IntKind.i64 (Int.ofNat q04) 1) 1))) 0) (k_ (subI IntKind.i64 (Int.ofNat q04) 1) 0 0 (fop BinOp.sub FloatKind.f32 (gF q08 (ixO 0 0 1)) (gF q08 (ixO 0 (subI IntKind.i64 (Int.ofNat q04) 1) 1)))) (k_ (subI IntKind.i64 (Int.ofNat q04) 1) 0 (fop BinOp.quo FloatKind.f32 (fop BinOp.sub FloatKind.f32 (z01 x1) (gF q08 (ixO 0 (subI IntKind.i64 (Int.ofNat q04) 1) 1))) (fop BinOp.sub FloatKind.f32 (gF q08 (ixO 0 0 1)) (gF q08 (ixO 0 (subI IntKind.i64 (Int.ofNat q04) 1) 1)))) (fop BinOp.sub FloatKind.f32 (gF q08 (ixO 0 0 1)) (gF q08 (ixO 0 (subI IntKind.i64 (Int.ofNat q04) 1) 1))))))) (br (eqI 0 0) (br (fcmp BinOp.eql FloatKind.f32 (fop BinOp.sub FloatKind.f32 (fop BinOp.add FloatKind.f32 (gF q08 (ixO 0 0 1)) 1065353216) (gF q08 (ixO 0 (subI IntKind.i64 (Int.ofNat q04) 1) 1))) 0) (k_ (subI IntKind.i64 (Int.ofNat q04) 1) 0 0 (fop BinOp.sub FloatKind.f32 (fop BinOp.add FloatKind.f32 (gF q08 (ixO 0 0 1)) 1065353216) (gF q08 (ixO 0 (subI IntKind.i64 (Int.ofNat q04) 1) 1)))) (k_ (subI IntKind.i64 (Int.ofNat q04) 1) 0 (fop BinOp.quo FloatKind.f32 (fop BinOp.sub FloatKind.f32 (z01 x1) (gF q08 (ixO 0 (subI IntKind.i64 (Int.ofNat q04) 1) 1))) (fop BinOp.sub FloatKind.f32 (fop BinOp.add FloatKind.f32 (gF q08 (ixO 0 0 1)) 1065353216) (gF q08 (ixO 0 (subI IntKind.i64 (Int.ofNat q04) 1) 1)))) (fop BinOp.sub FloatKind.f32 (fop BinOp.add FloatKind.f32 (gF q08 (ixO 0 0 1)) 1065353216) (gF q08 (ixO 0 (subI IntKind.i64 (Int.ofNat q04) 1) 1))))) (br (fcmp BinOp.eql FloatKind.f32 (fop BinOp.sub FloatKind.f32 (gF q08 (ixO 0 0 1)) (gF q08 (ixO 0 (subI IntKind.i64 (Int.ofNat q04) 1) 1))) 0) (k_ (subI IntKind.i64 (Int.ofNat q04) 1) 0 0 (fop BinOp.sub FloatKind.f32 (gF q08 (ixO 0 0 1)) (gF q08 (ixO 0 (subI IntKind.i64 (Int.ofNat q04) 1) 1)))) (k_ (subI IntKind.i64 (Int.ofNat q04) 1) 0 (fop BinOp.quo FloatKind.f32 (fop BinOp.sub FloatKind.f32 (z01 x1) (gF q08 (ixO 0 (subI IntKind.i64 (Int.ofNat q04) 1) 1))) (fop BinOp.sub FloatKind.f32 (gF q08 (ixO 0 0 1)) (gF q08 (ixO 0 (subI IntKind.i64 (Int.ofNat q04) 1) 1)))) (fop BinOp.sub FloatKind.f32 (gF q08 (ixO 0 0 1)) (gF q08 (ixO 0 (subI IntKind.i64 (Int.ofNat q04) 1) 1))))))))) (br (eqI (addI IntKind.i64 (z00 (z01 x1) q08 q04 (subI IntKind.i64 (Int.ofNat q04) 1)) 1) (Int.ofNat q04)) (grd (okIx (z00 (z01 x1) q08 q04 (subI IntKind.i64 (Int.ofNat q04) 1)) q04) (grd (okIx 0 q04) (br (eqI 0 0) (br (fcmp BinOp.lss FloatKind.f32 (z01 x1) (gF q08 (ixO 0 0 1))) (br (fcmp BinOp.eql FloatKind.f32 (fop BinOp.sub FloatKind.f32 (gF q08 (ixO 0 0 1)) (fop BinOp.sub FloatKind.f32 (gF q08 (ixO 0 (z00 (z01 x1) q08 q04 (subI IntKind.i64 (Int.ofNat q04) 1)) 1)) 1065353216)) 0) (k_ (z00 (z01 x1) q08 q04 (subI IntKind.i64 (Int.ofNat q04) 1)) 0 0 (fop BinOp.sub FloatKind.f32 (gF q08 (ixO 0 0 1)) (fop BinOp.sub FloatKind.f32 (gF q08 (ixO 0 (z00 (z01 x1) q08 q04 (subI IntKind.i64 (Int.ofNat q04) 1)) 1)) 1065353216))) (k_ (z00 (z01 x1) q08 q04 (subI IntKind.i64 (Int.ofNat q04) 1)) 0 (fop BinOp.quo FloatKind.f32 (fop BinOp.sub FloatKind.f32 (z01 x1) (fop BinOp.sub FloatKind.f32 (gF q08 (ixO 0 (z00 (z01 x1) q08 q04 (subI IntKind.i64 (Int.ofNat q04) 1)) 1)) 1065353216)) (fop BinOp.sub FloatKind.f32 (gF q08 (ixO 0 0 1)) (fop BinOp.sub FloatKind.f32 (gF q08 (ixO 0 (z00 (z01 x1) q08 q04 (subI IntKind.i64 (Int.ofNat q04) 1)) 1)) 1065353216))) (fop BinOp.sub FloatKind.f32 (gF q08 (ixO 0 0 1)) (fop BinOp.sub FloatKind.f32 (gF q08 (ixO 0 (z00 (z01 x1) q08 q04 (subI IntKind.i64 (Int.ofNat q04) 1)) 1)) 1065353216)))) (br (eqI 0 0) (br (fcmp BinOp.eql FloatKind.f32 (fop BinOp.sub FloatKind.f32 (fop BinOp.add FloatKind.f32 (gF q08 (ixO 0 0 1)) 1065353216) (gF q08 (ixO 0 (z00 (z01 x1) q08 q04 (subI IntKind.i64 (Int.ofNat q04) 1)) 1))) 0) (k_ (z00 (z01 x1) q08 q04 (subI IntKind.i64 (Int.ofNat q04) 1)) 0 0 (fop BinOp.sub FloatKind.f32 (fop BinOp.add FloatKind.f32 (gF q08 (ixO 0 0 1)) 1065353216) (gF q08 (ixO 0 (z00 (z01 x1) q08 q04 (subI IntKind.i64 (Int.ofNat q04) 1)) 1)))) (k_ (z00 (z01 x1) q08 q04 (subI IntKind.i64 (Int.ofNat q04) 1)) 0 (fop BinOp.quo FloatKind.f32 (fop BinOp.sub FloatKind.f32 (z01 x1) (gF q08 (ixO 0 (z00 (z01 x1) q08 q04 (subI IntKind.i64 (Int.ofNat q04) 1)) 1))) (fop BinOp.sub FloatKind.f32 (fop BinOp.add FloatKind.f32 (gF q08 (ixO 0 0 1)) 1065353216) (gF q08 (ixO 0 (z00 (z01 x1) q08 q04 (subI IntKind.i64 (Int.ofNat q04) 1)) 1)))) (fop BinOp.sub FloatKind.f32 (fop BinOp.add FloatKind.f32 (gF q08 (ixO 0 0 1)) 1065353216) (gF q08 (ixO 0 (z00 (z01 x1) q08 q04 (subI IntKind.i64 (Int.ofNat q04) 1)) 1))))) (br (fcmp BinOp.eql FloatKind.f32 (fop BinOp.sub FloatKind.f32 (gF q08 (ixO 0 0 1)) (gF q08 (ixO 0 (z00 (z01 x1) q08 q04 (subI IntKind.i64 (Int.ofNat q04) 1)) 1))) 0) (k_ (z00 (z01 x1) q08 q04 (subI IntKind.i64 (Int.ofNat q04) 1)) 0 0 (fop BinOp.sub FloatKind.f32 (gF q08 (ixO 0 0 1)) (gF q08 (ixO 0 (z00 (z01 x1) q08 q04 (subI IntKind.i64 (Int.ofNat q04) 1)) 1)))) (k_ (z00 (z01 x1) q08 q04 (subI IntKind.i64 (Int.ofNat q04) 1)) 0 (fop BinOp.quo FloatKind.f32 (fop BinOp.sub FloatKind.f32 (z01 x1) (gF q08 (ixO 0 (z00 (z01 x1) q08 q04 (subI IntKind.i64 (Int.ofNat q04) 1)) 1))) (fop BinOp.sub FloatKind.f32 (gF q08 (ixO 0 0 1)) (gF q08 (ixO 0 (z00 (z01 x1) q08 q04 (subI IntKind.i64 (Int.ofNat q04) 1)) 1)))) (fop BinOp.sub FloatKind.f32 (gF q08 (ixO 0 0 1)) (gF q08 (ixO 0 (z00 (z01 x1) q08 q04 (subI IntKind.i64 (Int.ofNat q04) 1)) 1))))))) (br (eqI 0 0) (br (fcmp BinOp.eql FloatKind.f32 (fop BinOp.sub FloatKind.f32 (fop BinOp.add FloatKind.f32 (gF q08 (ixO 0 0 1)) 1065353216) (gF q08 (ixO 0 (z00 (z01 x1) q08 q04 (subI IntKind.i64 (Int.ofNat q04) 1)) 1))) 0) (k_ (z00 (z01 x1) q08 q04 (subI IntKind.i64 (Int.ofNat q04) 1)) 0 0 (fop BinOp.sub FloatKind.f32 (fop BinOp.add FloatKind.f32 (gF q08 (ixO 0 0 1)) 1065353216) (gF q08 (ixO 0 (z00 (z01 x1) q08 q04 (subI IntKind.i64 (Int.ofNat q04) 1)) 1)))) (k_ (z00 (z01 x1) q08 q04 (subI IntKind.i64 (Int.ofNat q04) 1)) 0 (fop BinOp.quo FloatKind.f32 (fop BinOp.sub FloatKind.f32 (z01 x1) (gF q08 (ixO 0 (z00 (z01 x1) q08 q04 (subI IntKind.i64 (Int.ofNat q04) 1)) 1))) (fop BinOp.sub FloatKind.f32 (fop BinOp.add FloatKind.f32 (gF q08 (ixO 0 0 1)) 1065353216) (gF q08 (ixO 0 (z00 (z01 x1) q08 q04 (subI IntKind.i64 (Int.ofNat q04) 1)) 1)))) (fop BinOp.sub FloatKind.f32 (fop BinOp.add FloatKind.f32 (gF q08 (ixO 0 0 1)) 1065353216) (gF q08 (ixO 0 (z00 (z01 x1) q08 q04 (subI IntKind.i64 (Int.ofNat q04) 1)) 1))))) (br (fcmp BinOp.eql FloatKind.f32 (fop BinOp.sub FloatKind.f32 (gF q08 (ixO 0 0 1)) (gF q08 (ixO 0 (z00 (z01 x1) q08 q04 (subI IntKind.i64 (Int.ofNat q04) 1)) 1))) 0) (k_ (z00 (z01 x1) q08 q04 (subI IntKind.i64 (Int.ofNat q04) 1)) 0 0 (fop BinOp.sub FloatKind.f32 (gF q08 (ixO 0 0 1)) (gF q08 (ixO 0 (z00 (z01 x1) q08 q04 (subI IntKind.i64 (Int.ofNat q04) 1)) 1)))) (k_ (z00 (z01 x1) q08 q04 (subI IntKind.i64 (Int.ofNat q04) 1)) 0 (fop BinOp.quo FloatKind.f32 (fop BinOp.sub FloatKind.f32 (z01 x1) (gF q08 (ixO 0 (z00 (z01 x1) q08 q04 (subI IntKind.i64 (Int.ofNat q04) 1)) 1))) (fop BinOp.sub FloatKind.f32 (gF q08 (ixO 0 0 1)) (gF q08 (ixO 0 (z00 (z01 x1) q08 q04 (subI IntKind.i64 (Int.ofNat q04) 1)) 1)))) (fop BinOp.sub FloatKind.f32 (gF q08 (ixO 0 0 1)) (gF q08 (ixO 0 (z00 (z01 x1) q08 q04 (subI IntKind.i64 (Int.ofNat q04) 1)) 1))))))))) (grd (okIx (z00 (z01 x1) q08 q04 (subI IntKind.i64 (Int.ofNat q04) 1)) q04) (grd (okIx (addI IntKind.i64 (z00 (z01 x1) q08 q04 (subI IntKind.i64 (Int.ofNat q04) 1)) 1) q04) (br (eqI (addI IntKind.i64 (z00 (z01 x1) q08 q04 (subI IntKind.i64 (Int.ofNat q04) 1)) 1) 0) (br (fcmp BinOp.lss FloatKind.f32 (z01 x1) (gF q08 (ixO 0 (addI IntKind.i64 (z00 (z01 x1) q08 q04 (subI IntKind.i64 (Int.ofNat q04) 1)) 1) 1))) (br (fcmp BinOp.eql FloatKind.f32 (fop BinOp.sub FloatKind.f32 (gF q08 (ixO 0 (addI IntKind.i64 (z00 (z01 x1) q08 q04 (subI IntKind.i64 (Int.ofNat q04) 1)) 1) 1)) (fop BinOp.sub FloatKind.f32 (gF q08 (ixO 0 (z00 (z01 x1) q08 q04 (subI IntKind.i64 (Int.ofNat q04) 1)) 1)) 1065353216)) 0) (k_ (z00 (z01 x1) q08 q04 (subI IntKind.i64 (Int.ofNat q04) 1)) (addI IntKind.i64 (z00 (z01 x1) q08 q04 (subI IntKind.i64 (Int.ofNat q04) 1)) 1) 0 (fop BinOp.sub FloatKind.f32 (gF q08 (ixO 0 (addI IntKind.i64 (z00 (z01 x1) q08 q04 (subI IntKind.i64 (Int.ofNat q04) 1)) 1) 1)) (fop BinOp.sub FloatKind.f32 (gF q08 (ixO 0 (z00 (z01 x1) q08 q04 (subI IntKind.i64 (Int.ofNat q04) 1)) 1)) 1065353216))) (k_ (z00 (z01 x1) q08 q04 (subI IntKind.i64 (Int.ofNat q04) 1)) (addI IntKind.i64 (z00 (z01 x1) q08 q04 (subI IntKind.i64 (Int.ofNat q04) 1)) 1) (fop BinOp.quo FloatKind.f32 (fop BinOp.sub FloatKind.f32 (z01 x1) (fop BinOp.sub FloatKind.f32 (gF q08 (ixO 0 (z00 (z01 x1) q08 q04 (subI IntKind.i64 (Int.ofNat q04) 1)) 1)) 1065353216)) (fop BinOp.sub FloatKind.f32 (gF q08 (ixO 0 (addI IntKind.i64 (z00 (z01 x1) q08 q04 (subI IntKind.i64 (Int.ofNat q04) 1)) 1) 1)) (fop BinOp.sub FloatKind.f32 (gF q08 (ixO 0 (z00 (z01 x1) q08 q04 (subI IntKind.i64 (Int.ofNat q04) 1)) 1)) 1065353216))) (fop BinOp.sub FloatKind.f32 (gF q08 (ixO 0 (addI IntKind.i64 (z00 (z01 x1) q08 q04 (subI IntKind.i64 (Int.ofNat q04) 1)) 1) 1)) (fop BinOp.sub FloatKind.f32 (gF q08 (ixO 0 (z00 (z01 x1) q08 q04 (subI IntKind.i64 (Int.ofNat q04) 1)) 1)) 1065353216)))) (br (eqI (addI IntKind.i64 (z00 (z01 x1) q08 q04 (subI IntKind.i64 (Int.ofNat q04) 1)) 1) 0) (br (fcmp BinOp.eql FloatKind.f32 (fop BinOp.sub FloatKind.f32 (fop BinOp.add FloatKind.f32 (gF q08 (ixO 0 (addI IntKind.i64 (z00 (z01 x1) q08 q04 (subI IntKind.i64 (Int.ofNat q04) 1)) 1) 1)) 1065353216) (gF q08 (ixO 0 (z00 (z01 x1) q08 q04 (subI IntKind.i64 (Int.ofNat q04) 1)) 1))) 0) (k_ (z00 (z01 x1) q08 q04 (subI IntKind.i64 (Int.ofNat q04) 1)) (addI IntKind.i64 (z00 (z01 x1) q08 q04 (subI IntKind.i64 (Int.ofNat q04) 1)) 1) 0 (fop BinOp.sub FloatKind.f32 (fop BinOp.add FloatKind.f32 (gF q08 (ixO 0 (addI IntKind.i64 (z00 (z01 x1) q08 q04 (subI IntKind.i64 (Int.ofNat q04) 1)) 1) 1)) 1065353216) (gF q08 (ixO 0 (z00 (z01 x1) q08 q04 (subI IntKind.i64 (Int.ofNat q04) 1)) 1)))) (k_ (z00 (z01 x1) q08 q04 (subI IntKind.i64 (Int.ofNat q04) 1)) (addI IntKind.i64 (z00 (z01 x1) q08 q04 (subI IntKind.i64 (Int.ofNat q04) 1)) 1) (fop BinOp.quo FloatKind.f32 (fop BinOp.sub FloatKind.f32 (z01 x1) (gF q08 (ixO 0 (z00 (z01 x1) q08 q04 (subI IntKind.i64 (Int.ofNat q04) 1)) 1))) (fop BinOp.sub FloatKind.f32 (fop BinOp.add FloatKind.f32 (gF q08 (ixO 0 (addI IntKind.i64 (z00 (z01 x1) q08 q04 (subI IntKind.i64 (Int.ofNat q04) 1)) 1) 1)) 1065353216) (gF q08 (ixO 0 (z00 (z01 x1) q08 q04 (subI IntKind.i64 (Int.ofNat q04) 1)) 1)))) (fop BinOp.sub FloatKind.f32 (fop BinOp.add FloatKind.f32 (gF q08 (ixO 0 (addI IntKind.i64 (z00 (z01 x1) q08 q04 (subI IntKind.i64 (Int.ofNat q04) 1)) 1) 1)) 1065353216) (gF q08 (ixO 0 (z00 (z01 x1) q08 q04 (subI IntKind.i64 (Int.ofNat q04) 1)) 1))))) (br (fcmp BinOp.eql FloatKind.f32 (fop BinOp.sub FloatKind.f32 (gF q08 (ixO 0 (addI IntKind.i64 (z00 (z01 x1) q08 q04 (subI IntKind.i64 (Int.ofNat q04) 1)) 1) 1)) (gF q08 (ixO 0 (z00 (z01 x1) q08 q04 (subI IntKind.i64 (Int.ofNat q04) 1)) 1))) 0) (k_ (z00 (z01 x1) q08 q04 (subI IntKind.i64 (Int.ofNat q04) 1)) (addI IntKind.i64 (z00 (z01 x1) q08 q04 (subI IntKind.i64 (Int.ofNat q04) 1)) 1) 0 (fop BinOp.sub FloatKind.f32 (gF q08 (ixO 0 (addI IntKind.i64 (z00 (z01 x1) q08 q04 (subI IntKind.i64 (Int.ofNat q04) 1)) 1) 1)) (gF q08 (ixO 0 (z00 (z01 x1) q08 q04 (subI IntKind.i64 (Int.ofNat q04) 1)) 1)))) (k_ (z00 (z01 x1) q08 q04 (subI IntKind.i64 (Int.ofNat q04) 1)) (addI IntKind.i64 (z00 (z01 x1) q08 q04 (subI IntKind.i64 (Int.ofNat q04) 1)) 1) (fop BinOp.quo FloatKind.f32 (fop BinOp.sub FloatKind.f32 (z01 x1) (gF q08 (ixO 0 (z00 (z01 x1) q08 q04 (subI IntKind.i64 (Int.ofNat q04) 1)) 1))) (fop BinOp.sub FloatKind.f32 (gF q08 (ixO 0 (addI IntKind.i64 (z00 (z01 x1) q08 q04 (subI IntKind.i64 (Int.ofNat q04) 1)) 1) 1)) (gF q08 (ixO 0 (z00 (z01 x1) q08 q04 (subI IntKind.i64 (Int.ofNat q04) 1)) 1)))) (fop BinOp.sub FloatKind.f32 (gF q08 (ixO 0 (addI IntKind.i64 (z00 (z01 x1) q08 q04 (subI IntKind.i64 (Int.ofNat q04) 1)) 1) 1)) (gF q08 (ixO 0 (z00 (z01 x1) q08 q04 (subI IntKind.i64 (Int.ofNat q04) 1)) 1))))))) (br (eqI (addI IntKind.i64 (z00 (z01 x1) q08 q04 (subI IntKind.i64 (Int.ofNat q04) 1)) 1) 0) (br (fcmp BinOp.eql FloatKind.f32 (fop BinOp.sub FloatKind.f32 (fop BinOp.add FloatKind.f32 (gF q08 (ixO 0 (addI IntKind.i64 (z00 (z01 x1) q08 q04 (subI IntKind.i64 (Int.ofNat q04) 1)) 1) 1)) 1065353216) (gF q08 (ixO 0 (z00 (z01 x1) q08 q04 (subI IntKind.i64 (Int.ofNat q04) 1)) 1))) 0) (k_ (z00 (z01 x1) q08 q04 (subI IntKind.i64 (Int.ofNat q04) 1)) (addI IntKind.i64 (z00 (z01 x1) q08 q04 (subI IntKind.i64 (Int.ofNat q04) 1)) 1) 0 (fop BinOp.sub FloatKind.f32 (fop BinOp.add FloatKind.f32 (gF q08 (ixO 0 (addI IntKind.i64 (z00 (z01 x1) q08 q04 (subI IntKind.i64 (Int.ofNat q04) 1)) 1) 1)) 1065353216) (gF q08 (ixO 0 (z00 (z01 x1) q08 q04 (subI IntKind.i64 (Int.ofNat q04) 1)) 1)))) (k_ (z00 (z01 x1) q08 q04 (subI IntKind.i64 (Int.ofNat q04) 1)) (addI IntKind.i64 (z00 (z01 x1) q08 q04 (subI IntKind.i64 (Int.ofNat q04) 1)) 1) (fop BinOp.quo FloatKind.f32 (fop BinOp.sub FloatKind.f32 (z01 x1) (gF q08 (ixO 0 (z00 (z01 x1) q08 q04 (subI IntKind.i64 (Int.ofNat q04) 1)) 1))) (fop BinOp.sub FloatKind.f32 (fop BinOp.add FloatKind.f32 (gF q08 (ixO 0 (addI IntKind.i64 (z00 (z01 x1) q08 q04 (subI IntKind.i64 (Int.ofNat q04) 1)) 1) 1)) 1065353216) (gF q08 (ixO 0 (z00 (z01 x1) q08 q04 (subI IntKind.i64 (Int.ofNat q04) 1)) 1)))) (fop BinOp.sub FloatKind.f32 (fop BinOp.add FloatKind.f32 (gF q08 (ixO 0 (addI IntKind.i64 (z00 (z01 x1) q08 q04 (subI IntKind.i64 (Int.ofNat q04) 1)) 1) 1)) 1065353216) (gF q08 (ixO 0 (z00 (z01 x1) q08 q04 (subI IntKind.i64 (Int.ofNat q04) 1)) 1))))) (br (fcmp BinOp.eql FloatKind.f32 (fop BinOp.sub FloatKind.f32 (gF q08 (ixO 0 (addI IntKind.i64 (z00 (z01 x1) q08 q04 (subI IntKind.i64 (Int.ofNat q04) 1)) 1) 1)) (gF q08 (ixO 0 (z00 (z01 x1) q08 q04 (subI IntKind.i64 (Int.ofNat q04) 1)) 1))) 0) (k_ (z00 (z01 x1) q08 q04 (subI IntKind.i64 (Int.ofNat q04) 1)) (addI IntKind.i64 (z00 (z01 x1) q08 q04 (subI IntKind.i64 (Int.ofNat q04) 1)) 1) 0 (fop BinOp.sub FloatKind.f32 (gF q08 (ixO 0 (addI IntKind.i64 (z00 (z01 x1) q08 q04 (subI IntKind.i64 (Int.ofNat q04) 1)) 1) 1)) (gF q08 (ixO 0 (z00 (z01 x1) q08 q04 (subI IntKind.i64 (Int.ofNat q04) 1)) 1)))) (k_ (z00 (z01 x1) q08 q04 (subI IntKind.i64 (Int.ofNat q04) 1)) (addI IntKind.i64 (z00 (z01 x1) q08 q04 (subI IntKind.i64 (Int.ofNat q04) 1)) 1) (fop BinOp.quo FloatKind.f32 (fop BinOp.sub FloatKind.f32 (z01 x1) (gF q08 (ixO 0 (z00 (z01 x1) q08 q04 (subI IntKind.i64 (Int.ofNat q04) 1)) 1))) (fop BinOp.sub FloatKind.f32 (gF q08 (ixO 0 (addI IntKind.i64 (z00 (z01 x1) q08 q04 (subI IntKind.i64 (Int.ofNat q04) 1)) 1) 1)) (gF q08 (ixO 0 (z00 (z01 x1) q08 q04 (subI IntKind.i64 (Int.ofNat q04) 1)) 1)))) (fop BinOp.sub FloatKind.f32 (gF q08 (ixO 0 (addI IntKind.i64 (z00 (z01 x1) q08 q04 (subI IntKind.i64 (Int.ofNat q04) 1)) 1) 1)) (gF q08 (ixO 0 (z00 (z01 x1) q08 q04 (subI IntKind.i64 (Int.ofNat q04) 1)) 1)))))))))))))
noncomputable def z86 (q04 : Nat) (q08 : List Nat) (q0p : Nat) (q0t : List Nat) (q0o : Nat) (q0u : List Nat) (x1 : Nat) : Option (Int × Int × Nat × Nat) := zbb q04 q08 q0p q0t q0o q0u x1 (fun c0_ c1_ c2_ c3_ => some (c0_, c1_, c2_, c3_))
theorem znz {R R' : Type} (o : Option R → Option R') (h0 : o none = none) (q04 : Nat) (q08 : List Nat) (q0p : Nat) (q0t : List Nat) (q0o : Nat) (q0u : List Nat) (x1 : Nat) (k_ : Int → Int → Nat → Nat → Option R) : zbb q04 q08 q0p q0t q0o q0u x1 (fun c0_ c1_ c2_ c3_ => o (k_ c0_ c1_ c2_ c3_)) = o (zbb q04 q08 q0p q0t q0o q0u x1 k_) := by
  unfold zbb
  repeat (first | refine grd_out h0 ?_ | refine br_out ?_ ?_ | rfl | exact h0.symm)
noncomputable def zi2 (q04 : Nat) (q08 : List Nat) (q0p : Nat) (q0t : List Nat) (q0o : Nat) (q0u : List Nat) (x1 : Nat) : Bool := (z86 q04 q08 q0p q0t q0o q0u x1).isSome
noncomputable def z9u (q04 : Nat) (q08 : List Nat) (q0p : Nat) (q0t : List Nat) (q0o : Nat) (q0u : List Nat) (x1 : Nat) : Int := ((z86 q04 q08 q0p q0t q0o q0u x1).getD default).1
noncomputable def ze9 (q04 : Nat) (q08 : List Nat) (q0p : Nat) (q0t : List Nat) (q0o : Nat) (q0u : List Nat) (x1 : Nat) : Int := ((z86 q04 q08 q0p q0t q0o q0u x1).getD default).2.1
noncomputable def zh8 (q04 : Nat) (q08 : List Nat) (q0p : Nat) (q0t : List Nat) (q0o : Nat) (q0u : List Nat) (x1 : Nat) : Nat := ((z86 q04 q08 q0p q0t q0o q0u x1).getD default).2.2.1
noncomputable def zin (q04 : Nat) (q08 : List Nat) (q0p : Nat) (q0t : List Nat) (q0o : Nat) (q0u : List Nat) (x1 : Nat) : Nat := ((z86 q04 q08 q0p q0t q0o q0u x1).getD default).2.2.2
theorem zqa {q04 : Nat} {q08 : List Nat} {q0p : Nat} {q0t : List Nat} {q0o : Nat} {q0u : List Nat} {x1 : Nat} {r : Int × Int × Nat × Nat} (h : z86 q04 q08 q0p q0t q0o q0u x1 = some r) : zi2 q04 q08 q0p q0t q0o q0u x1 = true ∧ z9u q04 q08 q0p q0t q0o q0u x1 = r.1 ∧ ze9 q04 q08 q0p q0t q0o q0u x1 = r.2.1 ∧ zh8 q04 q08 q0p q0t q0o q0u x1 = r.2.2.1 ∧ zin q04 q08 q0p q0t q0o q0u x1 = r.2.2.2 := by
  unfold zi2 z9u ze9 zh8 zin
  rw [h]
  exact ⟨rfl, rfl, rfl, rfl, rfl⟩
noncomputable def z6b {R : Type} (q29 : Nat) (t43 : Int) (b0 : List Nat) (q18 : Nat) (t44 : Int) (kn_ : Int → Option R) (k0_ : Unit → Option R) (k1_ : Int → Bool → Option R) : Option R := (br (ltI t44 t43) (grd (okIx t44 q29) (grd (zed (gF b0 (ixO 0 t44 1)) 3204448256 1056964608) (br (bnot (zcy (gF b0 (ixO 0 t44 1)) 3204448256 1056964608)) (k0_ ()) (br (ltI 0 t44) (grd (okIx (subI IntKind.i64 t44 1) q18) (br (fcmp BinOp.geq FloatKind.f32 (gF b0 (ixO 0 (subI IntKind.i64 t44 1) 1)) (gF b0 (ixO 0 t44 1))) (k0_ ()) (kn_ (addI IntKind.i64 t44 1)))) (kn_ (addI IntKind.i64 t44 1)))))) (k1_ t44 (ltI t44 t43)))
theorem zj4 {R R' : Type} (o : Option R → Option R') (h0 : o none = none) (q29 : Nat) (t43 : Int) (b0 : List Nat) (q18 : Nat) (t44 : Int) (kn_ : Int → Option R) (k0_ : Unit → Option R) (k1_ : Int → Bool → Option R) : z6b q29 t43 b0 q18 t44 (fun t44' => o (kn_ t44')) (fun _ => o (k0_ ())) (fun c0_ c1_ => o (k1_ c0_ c1_)) = o (z6b q29 t43 b0 q18 t44 kn_ k0_ k1_) := by
  unfold z6b
  repeat (first | refine grd_out h0 ?_ | refine br_out ?_ ?_ | rfl | exact h0.symm)
noncomputable def z3r (q29 : Nat) (t43 : Int) (b0 : List Nat) (q18 : Nat) : Nat → Int → Option ((Unit) ⊕ (Int × Bool))
  | 0, _ => none
  | n + 1, t44 => z6b q29 t43 b0 q18  t44  (fun t44' => z3r q29 t43 b0 q18 n t44') (fun _ => some (Sum.inl ())) (fun c0_ c1_ => some (Sum.inr (c0_, c1_)))
theorem zgd (q29 : Nat) (t43 : Int) (b0 : List Nat) (q18 : Nat) (n : Nat) (t44 : Int) : z3r q29 t43 b0 q18 (n + 1) t44 = z6b q29 t43 b0 q18  t44  (fun t44' => z3r q29 t43 b0 q18 n t44') (fun _ => some (Sum.inl ())) (fun c0_ c1_ => some (Sum.inr (c0_, c1_))) := rfl
noncomputable def z7q (q29 : Nat) (t43 : Int) (b0 : List Nat) (q18 : Nat) (t44 : Int) : Bool := (z3r q29 t43 b0 q18 big t44).isSome
noncomputable def z7h (q29 : Nat) (t43 : Int) (b0 : List Nat) (q18 : Nat) (t44 : Int) : Bool := oL (z3r q29 t43 b0 q18 big t44)
noncomputable def zc1 (q29 : Nat) (t43 : Int) (b0 : List Nat) (q18 : Nat) (t44 : Int) : Int := ((tR (z3r q29 t43 b0 q18 big t44)).getD default).1
noncomputable def zc4 (q29 : Nat) (t43 : Int) (b0 : List Nat) (q18 : Nat) (t44 : Int) : Bool := ((tR (z3r q29 t43 b0 q18 big t44)).getD default).2
theorem zk6 {q29 : Nat} {t43 : Int} {b0 : List Nat} {q18 : Nat} {t44 : Int} {m : Nat} {r : Unit} (hm : m = big) (h : z3r q29 t43 b0 q18 m t44 = some (Sum.inl r)) : z7q q29 t43 b0 q18 t44 = true ∧ z7h q29 t43 b0 q18 t44 = true := by
  subst hm
  unfold z7q z7h
  rw [h]
  exact ⟨rfl, rfl⟩
theorem zju {q29 : Nat} {t43 : Int} {b0 : List Nat} {q18 : Nat} {t44 : Int} {m : Nat} {r : Int × Bool} (hm : m = big) (h : z3r q29 t43 b0 q18 m t44 = some (Sum.inr r)) : z7q q29 t43 b0 q18 t44 = true ∧ z7h q29 t43 b0 q18 t44 = false ∧ zc1 q29 t43 b0 q18 t44 = r.1 ∧ zc4 q29 t43 b0 q18 t44 = r.2 := by
  subst hm
  unfold z7q z7h zc1 zc4
  rw [h]
  exact ⟨rfl, rfl, rfl, rfl⟩
noncomputable def z96 {R : Type} (q04 : Nat) (q08 : List Nat) (q0p : Nat) (q0t : List Nat) (q0o : Nat) (q0u : List Nat) (k_ : Bool → Option R) : Option R := (br (ltI (Int.ofNat q04) 2) (k_ Bool.false) (br (ltI 24 (Int.ofNat q04)) (k_ Bool.false) (br (neI (Int.ofNat q0p) (Int.ofNat q04)) (k_ Bool.false) (br (neI (Int.ofNat q0o) (Int.ofNat q04)) (k_ Bool.false) (grd (zcz q0p (pF q0t 0 (muN q0p 1))) (br (bnot (zby q0p (pF q0t 0 (muN q0p 1)))) (k_ Bool.false) (grd (zh4 q0o (pF q0u 0 (muN q0o 1))) (br (bnot (zgp q0o (pF q0u 0 (muN q0o 1)))) (k_ Bool.false) (grd (z7q q04 (Int.ofNat q04) q08 q04 0) (br (z7h q04 (Int.ofNat q04) q08 q04 0) (k_ Bool.false) (k_ Bool.true)))))))))))
noncomputable def z95 (q04 : Nat) (q08 : List Nat) (q0p : Nat) (q0t : List Nat) (q0o : Nat) (q0u : List Nat) : Option (Bool) := z96 q04 q08 q0p q0t q0o q0u (fun c0_ => some c0_)
theorem zkg {R R' : Type} (o : Option R → Option R') (h0 : o none = none) (q04 : Nat) (q08 : List Nat) (q0p : Nat) (q0t : List Nat) (q0o : Nat) (q0u : List Nat) (k_ : Bool → Option R) : z96 q04 q08 q0p q0t q0o q0u (fun c0_ => o (k_ c0_)) = o (z96 q04 q08 q0p q0t q0o q0u k_) := by
  unfold z96
  repeat (first | refine grd_out h0 ?_ | refine br_out ?_ ?_ | rfl | exact h0.symm)
noncomputable def zd2 (q04 : Nat) (q08 : List Nat) (q0p : Nat) (q0t : List Nat) (q0o : Nat) (q0u : List Nat) : Bool := (z95 q04 q08 q0p q0t q0o q0u).isSome
noncomputable def zc6 (q04 : Nat) (q08 : List Nat) (q0p : Nat) (q0t : List Nat) (q0o : Nat) (q0u : List Nat) : Bool := ((z95 q04 q08 q0p q0t q0o q0u).getD default)
theorem zml {q04 : Nat} {q08 : List Nat} {q0p : Nat} {q0t : List Nat} {q0o : Nat} {q0u : List Nat} {r : Bool} (h : z95 q04 q08 q0p q0t q0o q0u = some r) : zd2 q04 q08 q0p q0t q0o q0u = true ∧ zc6 q04 q08 q0p q0t q0o q0u = r := by
  unfold zd2 zc6
  rw [h]
  exact ⟨rfl, rfl⟩
noncomputable def za2 {R : Type} (q0v : Nat) (q15 : List Nat) (q0x : Nat) (q1a : List Nat) (q0y : Nat) (q19 : List Nat) (q1c : Nat) (q1l : List Nat) (q1i : Nat) (k_ : Nat → Option R) : Option R := (grd (zbe q0v (pF q15 0 (muN q0v 1)) q0x (pF q1a 0 (muN q0x 1)) q0y (pF q19 0 (muN q0y 1)) q1i) (br (fcmp BinOp.neq FloatKind.f32 (z6n q0v (pF q15 0 (muN q0v 1)) q0x (pF q1a 0 (muN q0x 1)) q0y (pF q19 0 (muN q0y 1)) q1i) (z7z q0v (pF q15 0 (muN q0v 1)) q0x (pF q1a 0 (muN q0x 1)) q0y (pF q19 0 (muN q0y 1)) q1i)) (grd (okIx (z62 q0v (pF q15 0 (muN q0v 1)) q0x (pF q1a 0 (muN q0x 1)) q0y (pF q19 0 (muN q0y 1)) q1i) q1c) (grd (okIx (z61 q0v (pF q15 0 (muN q0v 1)) q0x (pF q1a 0 (muN q0x 1)) q0y (pF q19 0 (muN q0y 1)) q1i) q1c) (grd (zhs (gF q1l (ixO 0 (z62 q0v (pF q15 0 (muN q0v 1)) q0x (pF q1a 0 (muN q0x 1)) q0y (pF q19 0 (muN q0y 1)) q1i) 1)) (gF q1l (ixO 0 (z61 q0v (pF q15 0 (muN q0v 1)) q0x (pF q1a 0 (muN q0x 1)) q0y (pF q19 0 (muN q0y 1)) q1i) 1)) (fop BinOp.quo FloatKind.f32 (fop BinOp.sub FloatKind.f32 (z8r q0v (pF q15 0 (muN q0v 1)) q0x (pF q1a 0 (muN q0x 1)) q0y (pF q19 0 (muN q0y 1)) q1i) (z6n q0v (pF q15 0 (muN q0v 1)) q0x (pF q1a 0 (muN q0x 1)) q0y (pF q19 0 (muN q0y 1)) q1i)) (fop BinOp.sub FloatKind.f32 (z7z q0v (pF q15 0 (muN q0v 1)) q0x (pF q1a 0 (muN q0x 1)) q0y (pF q19 0 (muN q0y 1)) q1i) (z6n q0v (pF q15 0 (muN q0v 1)) q0x (pF q1a 0 (muN q0x 1)) q0y (pF q19 0 (muN q0y 1)) q1i)))) (k_ (zgx (gF q1l (ixO 0 (z62 q0v (pF q15 0 (muN q0v 1)) q0x (pF q1a 0 (muN q0x 1)) q0y (pF q19 0 (muN q0y 1)) q1i) 1)) (gF q1l (ixO 0 (z61 q0v (pF q15 0 (muN q0v 1)) q0x (pF q1a 0 (muN q0x 1)) q0y (pF q19 0 (muN q0y 1)) q1i) 1)) (fop BinOp.quo FloatKind.f32 (fop BinOp.sub FloatKind.f32 (z8r q0v (pF q15 0 (muN q0v 1)) q0x (pF q1a 0 (muN q0x 1)) q0y (pF q19 0 (muN q0y 1)) q1i) (z6n q0v (pF q15 0 (muN q0v 1)) q0x (pF q1a 0 (muN q0x 1)) q0y (pF q19 0 (muN q0y 1)) q1i)) (fop BinOp.sub FloatKind.f32 (z7z q0v (pF q15 0 (muN q0v 1)) q0x (pF q1a 0 (muN q0x 1)) q0y (pF q19 0 (muN q0y 1)) q1i) (z6n q0v (pF q15 0 (muN q0v 1)) q0x (pF q1a 0 (muN q0x 1)) q0y (pF q19 0 (muN q0y 1)) q1i)))))))) (grd (okIx (z62 q0v (pF q15 0 (muN q0v 1)) q0x (pF q1a 0 (muN q0x 1)) q0y (pF q19 0 (muN q0y 1)) q1i) q1c) (grd (okIx (z61 q0v (pF q15 0 (muN q0v 1)) q0x (pF q1a 0 (muN q0x 1)) q0y (pF q19 0 (muN q0y 1)) q1i) q1c) (grd (zhs (gF q1l (ixO 0 (z62 q0v (pF q15 0 (muN q0v 1)) q0x (pF q1a 0 (muN q0x 1)) q0y (pF q19 0 (muN q0y 1)) q1i) 1)) (gF q1l (ixO 0 (z61 q0v (pF q15 0 (muN q0v 1)) q0x (pF q1a 0 (muN q0x 1)) q0y (pF q19 0 (muN q0y 1)) q1i) 1)) 0) (k_ (zgx (gF q1l (ixO 0 (z62 q0v (pF q15 0 (muN q0v 1)) q0x (pF q1a 0 (muN q0x 1)) q0y (pF q19 0 (muN q0y 1)) q1i) 1)) (gF q1l (ixO 0 (z61 q0v (pF q15 0 (muN q0v 1)) q0x (pF q1a 0 (muN q0x 1)) q0y (pF q19 0 (muN q0y 1)) q1i) 1)) 0)))))))
noncomputable def za6 (q0v : Nat) (q15 : List Nat) (q0x : Nat) (q1a : List Nat) (q0y : Nat) (q19 : List Nat) (q1c : Nat) (q1l : List Nat) (q1i : Nat) : Option (Nat) := za2 q0v q15 q0x q1a q0y q19 q1c q1l q1i (fun c0_ => some c0_)
theorem zld {R R' : Type} (o : Option R → Option R') (h0 : o none = none) (q0v : Nat) (q15 : List Nat) (q0x : Nat) (q1a : List Nat) (q0y : Nat) (q19 : List Nat) (q1c : Nat) (q1l : List Nat) (q1i : Nat) (k_ : Nat → Option R) : za2 q0v q15 q0x q1a q0y q19 q1c q1l q1i (fun c0_ => o (k_ c0_)) = o (za2 q0v q15 q0x q1a q0y q19 q1c q1l q1i k_) := by
  unfold za2
  repeat (first | refine grd_out h0 ?_ | refine br_out ?_ ?_ | rfl | exact h0.symm)
noncomputable def zbx (q0v : Nat) (q15 : List Nat) (q0x : Nat) (q1a : List Nat) (q0y : Nat) (q19 : List Nat) (q1c : Nat) (q1l : List Nat) (q1i : Nat) : Bool := (za6 q0v q15 q0x q1a q0y q19 q1c q1l q1i).isSome
noncomputable def z8i (q0v : Nat) (q15 : List Nat) (q0x : Nat) (q1a : List Nat) (q0y : Nat) (q19 : List Nat) (q1c : Nat) (q1l : List Nat) (q1i : Nat) : Nat := ((za6 q0v q15 q0x q1a q0y q19 q1c q1l q1i).getD default)
theorem zj1 {q0v : Nat} {q15 : List Nat} {q0x : Nat} {q1a : List Nat} {q0y : Nat} {q19 : List Nat} {q1c : Nat} {q1l : List Nat} {q1i : Nat} {r : Nat} (h : za6 q0v q15 q0x q1a q0y q19 q1c q1l q1i = some r) : zbx q0v q15 q0x q1a q0y q19 q1c q1l q1i = true ∧ z8i q0v q15 q0x q1a q0y q19 q1c q1l q1i = r := by
  unfold zbx z8i
  rw [h]
  exact ⟨rfl, rfl⟩
noncomputable def zfl {R : Type} (q0v : Nat) (q15 : List Nat) (q0x : Nat) (q1a : List Nat) (q0y : Nat) (q19 : List Nat) (q1c : Nat) (q1l : List Nat) (q1i : Nat) (k_ : Nat → Option R) : Option R := (grd (zi2 q0v (pF q15 0 (muN q0v 1)) q0x (pF q1a 0 (muN q0x 1)) q0y (pF q19 0 (muN q0y 1)) q1i) (grd (okIx (z9u q0v (pF q15 0 (muN q0v 1)) q0x (pF q1a 0 (muN q0x 1)) q0y (pF q19 0 (muN q0y 1)) q1i) q1c) (grd (okIx (ze9 q0v (pF q15 0 (muN q0v 1)) q0x (pF q1a 0 (muN q0x 1)) q0y (pF q19 0 (muN q0y 1)) q1i) q1c) (grd (okIx (z9u q0v (pF q15 0 (muN q0v 1)) q0x (pF q1a 0 (muN q0x 1)) q0y (pF q19 0 (muN q0y 1)) q1i) q1c) (k_ (fop BinOp.add FloatKind.f32 (gF q1l (ixO 0 (z9u q0v (pF q15 0 (muN q0v 1)) q0x (pF q1a 0 (muN q0x 1)) q0y (pF q19 0 (muN q0y 1)) q1i) 1)) (fop BinOp.mul FloatKind.f32 (zh8 q0v (pF q15 0 (muN q0v 1)) q0x (pF q1a 0 (muN q0x 1)) q0y (pF q19 0 (muN q0y 1)) q1i) (fop BinOp.sub FloatKind.f32 (gF q1l (ixO 0 (ze9 q0v (pF q15 0 (muN q0v 1)) q0x (pF q1a 0 (muN q0x 1)) q0y (pF q19 0 (muN q0y 1)) q1i) 1)) (gF q1l (ixO 0 (z9u q0v (pF q15 0 (muN q0v 1)) q0x (pF q1a 0 (muN q0x 1)) q0y (pF q19 0 (muN q0y 1)) q1i) 1))))))))))
noncomputable def zfj (q0v : Nat) (q15 : List Nat) (q0x : Nat) (q1a : List Nat) (q0y : Nat) (q19 : List Nat) (q1c : Nat) (q1l : List Nat) (q1i : Nat) : Option (Nat) := zfl q0v q15 q0x q1a q0y q19 q1c q1l q1i (fun c0_ => some c0_)
theorem zpi {R R' : Type} (o : Option R → Option R') (h0 : o none = none) (q0v : Nat) (q15 : List Nat) (q0x : Nat) (q1a : List Nat) (q0y : Nat) (q19 : List Nat) (q1c : Nat) (q1l : List Nat) (q1i : Nat) (k_ : Nat → Option R) : zfl q0v q15 q0x q1a q0y q19 q1c q1l q1i (fun c0_ => o (k_ c0_)) = o (zfl q0v q15 q0x q1a q0y q19 q1c q1l q1i k_) := by
  unfold zfl
  repeat (first | refine grd_out h0 ?_ | refine br_out ?_ ?_ | rfl | exact h0.symm)
noncomputable def zhp (q0v : Nat) (q15 : List Nat) (q0x : Nat) (q1a : List Nat) (q0y : Nat) (q19 : List Nat) (q1c : Nat) (q1l : List Nat) (q1i : Nat) : Bool := (zfj q0v q15 q0x q1a q0y q19 q1c q1l q1i).isSome
noncomputable def zgw (q0v : Nat) (q15 : List Nat) (q0x : Nat) (q1a : List Nat) (q0y : Nat) (q19 : List Nat) (q1c : Nat) (q1l : List Nat) (q1i : Nat) : Nat := ((zfj q0v q15 q0x q1a q0y q19 q1c q1l q1i).getD default)
theorem zmy {q0v : Nat} {q15 : List Nat} {q0x : Nat} {q1a : List Nat} {q0y : Nat} {q19 : List Nat} {q1c : Nat} {q1l : List Nat} {q1i : Nat} {r : Nat} (h : zfj q0v q15 q0x q1a q0y q19 q1c q1l q1i = some r) : zhp q0v q15 q0x q1a q0y q19 q1c q1l q1i = true ∧ zgw q0v q15 q0x q1a q0y q19 q1c q1l q1i = r := by
  unfold zhp zgw
  rw [h]
  exact ⟨rfl, rfl⟩
noncomputable def z97 {R : Type} (q09 : Nat) (q0d : List Nat) (q0a : Nat) (q0e : List Nat) (q0b : Nat) (q0f : List Nat) (q0h : Nat) (q0k : List Nat) (q0w : Int) (q13 : Nat) (q12 : Nat) (i : Int) (q1e : Nat) (q1b : Nat) (k_ : Nat → Nat → Option R) : Option R := (grd (okIx i q0h) (grd (zbx q09 (pF q0d 0 (muN q09 1)) q0a (pF q0e 0 (muN q0a 1)) q0b (pF q0f 0 (muN q0b 1)) q0a (pF q0e 0 (muN q0a 1)) (fop BinOp.sub FloatKind.f32 (fop BinOp.sub FloatKind.f32 q1e (gF q0k (Nat.succ (Nat.succ (ixO 0 i 3))))) q1b)) (grd (zbx q09 (pF q0d 0 (muN q09 1)) q0a (pF q0e 0 (muN q0a 1)) q0b (pF q0f 0 (muN q0b 1)) q0b (pF q0f 0 (muN q0b 1)) (fop BinOp.sub FloatKind.f32 (fop BinOp.sub FloatKind.f32 q1e (gF q0k (Nat.succ (Nat.succ (ixO 0 i 3))))) q1b)) (grd (zd0 q1e) (grd (zd0 (fop BinOp.add FloatKind.f32 q1e 1048576000)) (k_ (fop BinOp.add FloatKind.f32 (fop BinOp.mul FloatKind.f32 (z8i q09 (pF q0d 0 (muN q09 1)) q0a (pF q0e 0 (muN q0a 1)) q0b (pF q0f 0 (muN q0b 1)) q0a (pF q0e 0 (muN q0a 1)) (fop BinOp.sub FloatKind.f32 (fop BinOp.sub FloatKind.f32 q1e (gF q0k (Nat.succ (Nat.succ (ixO 0 i 3))))) q1b)) (z8v (fop BinOp.add FloatKind.f32 q1e 1048576000))) (fop BinOp.mul FloatKind.f32 (z8i q09 (pF q0d 0 (muN q09 1)) q0a (pF q0e 0 (muN q0a 1)) q0b (pF q0f 0 (muN q0b 1)) q0b (pF q0f 0 (muN q0b 1)) (fop BinOp.sub FloatKind.f32 (fop BinOp.sub FloatKind.f32 q1e (gF q0k (Nat.succ (Nat.succ (ixO 0 i 3))))) q1b)) (z8v q1e))) (fop BinOp.sub FloatKind.f32 (fop BinOp.mul FloatKind.f32 (z8i q09 (pF q0d 0 (muN q09 1)) q0a (pF q0e 0 (muN q0a 1)) q0b (pF q0f 0 (muN q0b 1)) q0a (pF q0e 0 (muN q0a 1)) (fop BinOp.sub FloatKind.f32 (fop BinOp.sub FloatKind.f32 q1e (gF q0k (Nat.succ (Nat.succ (ixO 0 i 3))))) q1b)) (z8v q1e)) (fop BinOp.mul FloatKind.f32 (z8i q09 (pF q0d 0 (muN q09 1)) q0a (pF q0e 0 (muN q0a 1)) q0b (pF q0f 0 (muN q0b 1)) q0b (pF q0f 0 (muN q0b 1)) (fop BinOp.sub FloatKind.f32 (fop BinOp.sub FloatKind.f32 q1e (gF q0k (Nat.succ (Nat.succ (ixO 0 i 3))))) q1b)) (z8v (fop BinOp.add FloatKind.f32 q1e 1048576000))))))))))
noncomputable def z8b (q09 : Nat) (q0d : List Nat) (q0a : Nat) (q0e : List Nat) (q0b : Nat) (q0f : List Nat) (q0h : Nat) (q0k : List Nat) (q0w : Int) (q13 : Nat) (q12 : Nat) (i : Int) (q1e : Nat) (q1b : Nat) : Option (Nat × Nat) := z97 q09 q0d q0a q0e q0b q0f q0h q0k q0w q13 q12 i q1e q1b (fun c0_ c1_ => some (c0_, c1_))
theorem zkh {R R' : Type} (o : Option R → Option R') (h0 : o none = none) (q09 : Nat) (q0d : List Nat) (q0a : Nat) (q0e : List Nat) (q0b : Nat) (q0f : List Nat) (q0h : Nat) (q0k : List Nat) (q0w : Int) (q13 : Nat) (q12 : Nat) (i : Int) (q1e : Nat) (q1b : Nat) (k_ : Nat → Nat → Option R) : z97 q09 q0d q0a q0e q0b q0f q0h q0k q0w q13 q12 i q1e q1b (fun c0_ c1_ => o (k_ c0_ c1_)) = o (z97 q09 q0d q0a q0e q0b q0f q0h q0k q0w q13 q12 i q1e q1b k_) := by
  unfold z97
  repeat (first | refine grd_out h0 ?_ | refine br_out ?_ ?_ | rfl | exact h0.symm)
noncomputable def zd3 (q09 : Nat) (q0d : List Nat) (q0a : Nat) (q0e : List Nat) (q0b : Nat) (q0f : List Nat) (q0h : Nat) (q0k : List Nat) (q0w : Int) (q13 : Nat) (q12 : Nat) (i : Int) (q1e : Nat) (q1b : Nat) : Bool := (z8b q09 q0d q0a q0e q0b q0f q0h q0k q0w q13 q12 i q1e q1b).isSome
noncomputable def z81 (q09 : Nat) (q0d : List Nat) (q0a : Nat) (q0e : List Nat) (q0b : Nat) (q0f : List Nat) (q0h : Nat) (q0k : List Nat) (q0w : Int) (q13 : Nat) (q12 : Nat) (i : Int) (q1e : Nat) (q1b : Nat) : Nat := ((z8b q09 q0d q0a q0e q0b q0f q0h q0k q0w q13 q12 i q1e q1b).getD default).1
noncomputable def z82 (q09 : Nat) (q0d : List Nat) (q0a : Nat) (q0e : List Nat) (q0b : Nat) (q0f : List Nat) (q0h : Nat) (q0k : List Nat) (q0w : Int) (q13 : Nat) (q12 : Nat) (i : Int) (q1e : Nat) (q1b : Nat) : Nat := ((z8b q09 q0d q0a q0e q0b q0f q0h q0k q0w q13 q12 i q1e q1b).getD default).2
theorem zm8 {q09 : Nat} {q0d : List Nat} {q0a : Nat} {q0e : List Nat} {q0b : Nat} {q0f : List Nat} {q0h : Nat} {q0k : List Nat} {q0w : Int} {q13 : Nat} {q12 : Nat} {i : Int} {q1e : Nat} {q1b : Nat} {r : Nat × Nat} (h : z8b q09 q0d q0a q0e q0b q0f q0h q0k q0w q13 q12 i q1e q1b = some r) : zd3 q09 q0d q0a q0e q0b q0f q0h q0k q0w q13 q12 i q1e q1b = true ∧ z81 q09 q0d q0a q0e q0b q0f q0h q0k q0w q13 q12 i q1e q1b = r.1 ∧ z82 q09 q0d q0a q0e q0b q0f q0h q0k q0w q13 q12 i q1e q1b = r.2 := by
  unfold zd3 z81 z82
  rw [h]
  exact ⟨rfl, rfl, rfl⟩
noncomputable def zcg {R : Type} (q0v : Nat) (q15 : List Nat) (q0x : Nat) (q1a : List Nat) (q0y : Nat) (q19 : List Nat) (q1i : Nat) (k_ : Nat → Option R) : Option R := (grd (zhp q0v (pF q15 0 (muN q0v 1)) q0x (pF q1a 0 (muN q0x 1)) q0y (pF q19 0 (muN q0y 1)) q0x (pF q1a 0 (muN q0x 1)) q1i) (k_ (zgw q0v (pF q15 0 (muN q0v 1)) q0x (pF q1a 0 (muN q0x 1)) q0y (pF q19 0 (muN q0y 1)) q0x (pF q1a 0 (muN q0x 1)) q1i)))
noncomputable def zch (q0v : Nat) (q15 : List Nat) (q0x : Nat) (q1a : List Nat) (q0y : Nat) (q19 : List Nat) (q1i : Nat) : Option (Nat) := zcg q0v q15 q0x q1a q0y q19 q1i (fun c0_ => some c0_)
theorem zo1 {R R' : Type} (o : Option R → Option R') (h0 : o none = none) (q0v : Nat) (q15 : List Nat) (q0x : Nat) (q1a : List Nat) (q0y : Nat) (q19 : List Nat) (q1i : Nat) (k_ : Nat → Option R) : zcg q0v q15 q0x q1a q0y q19 q1i (fun c0_ => o (k_ c0_)) = o (zcg q0v q15 q0x q1a q0y q19 q1i k_) := by
  unfold zcg
  repeat (first | refine grd_out h0 ?_ | refine br_out ?_ ?_ | rfl | exact h0.symm)
noncomputable def zhx (q0v : Nat) (q15 : List Nat) (q0x : Nat) (q1a : List Nat) (q0y : Nat) (q19 : List Nat) (q1i : Nat) : Bool := (zch q0v q15 q0x q1a q0y q19 q1i).isSome
noncomputable def zeb (q0v : Nat) (q15 : List Nat) (q0x : Nat) (q1a : List Nat) (q0y : Nat) (q19 : List Nat) (q1i : Nat) : Nat := ((zch q0v q15 q0x q1a q0y q19 q1i).getD default)
theorem zq2 {q0v : Nat} {q15 : List Nat} {q0x : Nat} {q1a : List Nat} {q0y : Nat} {q19 : List Nat} {q1i : Nat} {r : Nat} (h : zch q0v q15 q0x q1a q0y q19 q1i = some r) : zhx q0v q15 q0x q1a q0y q19 q1i = true ∧ zeb q0v q15 q0x q1a q0y q19 q1i = r := by
  unfold zhx zeb
  rw [h]
  exact ⟨rfl, rfl⟩
noncomputable def zck {R : Type} (q0v : Nat) (q15 : List Nat) (q0x : Nat) (q1a : List Nat) (q0y : Nat) (q19 : List Nat) (q1i : Nat) (k_ : Nat → Option R) : Option R := (grd (zhp q0v (pF q15 0 (muN q0v 1)) q0x (pF q1a 0 (muN q0x 1)) q0y (pF q19 0 (muN q0y 1)) q0y (pF q19 0 (muN q0y 1)) q1i) (k_ (zgw q0v (pF q15 0 (muN q0v 1)) q0x (pF q1a 0 (muN q0x 1)) q0y (pF q19 0 (muN q0y 1)) q0y (pF q19 0 (muN q0y 1)) q1i)))
noncomputable def zcd (q0v : Nat) (q15 : List Nat) (q0x : Nat) (q1a : List Nat) (q0y : Nat) (q19 : List Nat) (q1i : Nat) : Option (Nat) := zck q0v q15 q0x q1a q0y q19 q1i (fun c0_ => some c0_)
theorem zo3 {R R' : Type} (o : Option R → Option R') (h0 : o none = none) (q0v : Nat) (q15 : List Nat) (q0x : Nat) (q1a : List Nat) (q0y : Nat) (q19 : List Nat) (q1i : Nat) (k_ : Nat → Option R) : zck q0v q15 q0x q1a q0y q19 q1i (fun c0_ => o (k_ c0_)) = o (zck q0v q15 q0x q1a q0y q19 q1i k_) := by
  unfold zck
  repeat (first | refine grd_out h0 ?_ | refine br_out ?_ ?_ | rfl | exact h0.symm)
noncomputable def zhv (q0v : Nat) (q15 : List Nat) (q0x : Nat) (q1a : List Nat) (q0y : Nat) (q19 : List Nat) (q1i : Nat) : Bool := (zcd q0v q15 q0x q1a q0y q19 q1i).isSome
noncomputable def zek (q0v : Nat) (q15 : List Nat) (q0x : Nat) (q1a : List Nat) (q0y : Nat) (q19 : List Nat) (q1i : Nat) : Nat := ((zcd q0v q15 q0x q1a q0y q19 q1i).getD default)
theorem zq0 {q0v : Nat} {q15 : List Nat} {q0x : Nat} {q1a : List Nat} {q0y : Nat} {q19 : List Nat} {q1i : Nat} {r : Nat} (h : zcd q0v q15 q0x q1a q0y q19 q1i = some r) : zhv q0v q15 q0x q1a q0y q19 q1i = true ∧ zek q0v q15 q0x q1a q0y q19 q1i = r := by
  unfold zhv zek
  rw [h]
  exact ⟨rfl, rfl⟩
noncomputable def zb5 {R : Type} (q09 : Nat) (q0d : List Nat) (q0a : Nat) (q0e : List Nat) (q0b : Nat) (q0f : List Nat) (q0h : Nat) (q0k : List Nat) (q0w : Int) (q13 : Nat) (q12 : Nat) (i : Int) (q1e : Nat) (q1b : Nat) (k_ : Nat → Nat → Option R) : Option R := (grd (okIx i q0h) (grd (zhx q09 (pF q0d 0 (muN q09 1)) q0a (pF q0e 0 (muN q0a 1)) q0b (pF q0f 0 (muN q0b 1)) (fop BinOp.sub FloatKind.f32 (fop BinOp.sub FloatKind.f32 q1e (gF q0k (Nat.succ (Nat.succ (ixO 0 i 3))))) q1b)) (grd (zhv q09 (pF q0d 0 (muN q09 1)) q0a (pF q0e 0 (muN q0a 1)) q0b (pF q0f 0 (muN q0b 1)) (fop BinOp.sub FloatKind.f32 (fop BinOp.sub FloatKind.f32 q1e (gF q0k (Nat.succ (Nat.succ (ixO 0 i 3))))) q1b)) (grd (zg1 q1e) (grd (zg1 (fop BinOp.add FloatKind.f32 q1e 1048576000)) (k_ (fop BinOp.add FloatKind.f32 (fop BinOp.mul FloatKind.f32 (zeb q09 (pF q0d 0 (muN q09 1)) q0a (pF q0e 0 (muN q0a 1)) q0b (pF q0f 0 (muN q0b 1)) (fop BinOp.sub FloatKind.f32 (fop BinOp.sub FloatKind.f32 q1e (gF q0k (Nat.succ (Nat.succ (ixO 0 i 3))))) q1b)) (z9q (fop BinOp.add FloatKind.f32 q1e 1048576000))) (fop BinOp.mul FloatKind.f32 (zek q09 (pF q0d 0 (muN q09 1)) q0a (pF q0e 0 (muN q0a 1)) q0b (pF q0f 0 (muN q0b 1)) (fop BinOp.sub FloatKind.f32 (fop BinOp.sub FloatKind.f32 q1e (gF q0k (Nat.succ (Nat.succ (ixO 0 i 3))))) q1b)) (z9q q1e))) (fop BinOp.sub FloatKind.f32 (fop BinOp.mul FloatKind.f32 (zeb q09 (pF q0d 0 (muN q09 1)) q0a (pF q0e 0 (muN q0a 1)) q0b (pF q0f 0 (muN q0b 1)) (fop BinOp.sub FloatKind.f32 (fop BinOp.sub FloatKind.f32 q1e (gF q0k (Nat.succ (Nat.succ (ixO 0 i 3))))) q1b)) (z9q q1e)) (fop BinOp.mul FloatKind.f32 (zek q09 (pF q0d 0 (muN q09 1)) q0a (pF q0e 0 (muN q0a 1)) q0b (pF q0f 0 (muN q0b 1)) (fop BinOp.sub FloatKind.f32 (fop BinOp.sub FloatKind.f32 q1e (gF q0k (Nat.succ (Nat.succ (ixO 0 i 3))))) q1b)) (z9q (fop BinOp.add FloatKind.f32 q1e 1048576000))))))))))
noncomputable def z9c (q09 : Nat) (q0d : List Nat) (q0a : Nat) (q0e : List Nat) (q0b : Nat) (q0f : List Nat) (q0h : Nat) (q0k : List Nat) (q0w : Int) (q13 : Nat) (q12 : Nat) (i : Int) (q1e : Nat) (q1b : Nat) : Option (Nat × Nat) := zb5 q09 q0d q0a q0e q0b q0f q0h q0k q0w q13 q12 i q1e q1b (fun c0_ c1_ => some (c0_, c1_))
theorem zma {R R' : Type} (o : Option R → Option R') (h0 : o none = none) (q09 : Nat) (q0d : List Nat) (q0a : Nat) (q0e : List Nat) (q0b : Nat) (q0f : List Nat) (q0h : Nat) (q0k : List Nat) (q0w : Int) (q13 : Nat) (q12 : Nat) (i : Int) (q1e : Nat) (q1b : Nat) (k_ : Nat → Nat → Option R) : zb5 q09 q0d q0a q0e q0b q0f q0h q0k q0w q13 q12 i q1e q1b (fun c0_ c1_ => o (k_ c0_ c1_)) = o (zb5 q09 q0d q0a q0e q0b q0f q0h q0k q0w q13 q12 i q1e q1b k_) := by
  unfold zb5
  repeat (first | refine grd_out h0 ?_ | refine br_out ?_ ?_ | rfl | exact h0.symm)
noncomputable def zgf (q09 : Nat) (q0d : List Nat) (q0a : Nat) (q0e : List Nat) (q0b : Nat) (q0f : List Nat) (q0h : Nat) (q0k : List Nat) (q0w : Int) (q13 : Nat) (q12 : Nat) (i : Int) (q1e : Nat) (q1b : Nat) : Bool := (z9c q09 q0d q0a q0e q0b q0f q0h q0k q0w q13 q12 i q1e q1b).isSome
noncomputable def z8w (q09 : Nat) (q0d : List Nat) (q0a : Nat) (q0e : List Nat) (q0b : Nat) (q0f : List Nat) (q0h : Nat) (q0k : List Nat) (q0w : Int) (q13 : Nat) (q12 : Nat) (i : Int) (q1e : Nat) (q1b : Nat) : Nat := ((z9c q09 q0d q0a q0e q0b q0f q0h q0k q0w q13 q12 i q1e q1b).getD default).1
noncomputable def z90 (q09 : Nat) (q0d : List Nat) (q0a : Nat) (q0e : List Nat) (q0b : Nat) (q0f : List Nat) (q0h : Nat) (q0k : List Nat) (q0w : Int) (q13 : Nat) (q12 : Nat) (i : Int) (q1e : Nat) (q1b : Nat) : Nat := ((z9c q09 q0d q0a q0e q0b q0f q0h q0k q0w q13 q12 i q1e q1b).getD default).2
theorem zov {q09 : Nat} {q0d : List Nat} {q0a : Nat} {q0e : List Nat} {q0b : Nat} {q0f : List Nat} {q0h : Nat} {q0k : List Nat} {q0w : Int} {q13 : Nat} {q12 : Nat} {i : Int} {q1e : Nat} {q1b : Nat} {r : Nat × Nat} (h : z9c q09 q0d q0a q0e q0b q0f q0h q0k q0w q13 q12 i q1e q1b = some r) : zgf q09 q0d q0a q0e q0b q0f q0h q0k q0w q13 q12 i q1e q1b = true ∧ z8w q09 q0d q0a q0e q0b q0f q0h q0k q0w q13 q12 i q1e q1b = r.1 ∧ z90 q09 q0d q0a q0e q0b q0f q0h q0k q0w q13 q12 i q1e q1b = r.2 := by
  unfold zgf z8w z90
  rw [h]
  exact ⟨rfl, rfl, rfl⟩
noncomputable def z6x {R : Type} (q28 : Nat) (t44 : Int) (b3 : List Nat) (q1r : Nat) (t4 : Nat) (t45 : Int) (kn_ : Nat → Int → Option R) (k0_ : Unit → Option R) (k1_ : Nat → Int → Bool → Option R) : Option R := (br (ltI t45 t44) (grd (okIx t45 q28) (br (fcmp BinOp.gtr FloatKind.f32 (gF b3 (ixO 0 t45 3)) t4) (br (bnot (fcmp BinOp.lss FloatKind.f32 (gF b3 (ixO 0 t45 3)) q1r)) (k0_ ()) (grd (zbg 1 (pF [(gF b3 (Nat.succ (ixO 0 t45 3)))] 0 (muN 1 1))) (br (bnot (zaq 1 (pF [(gF b3 (Nat.succ (ixO 0 t45 3)))] 0 (muN 1 1)))) (k0_ ()) (grd (z71 (gF b3 (Nat.succ (Nat.succ (ixO 0 t45 3))))) (br (bnot (z6m (gF b3 (Nat.succ (Nat.succ (ixO 0 t45 3)))))) (k0_ ()) (kn_ (gF b3 (ixO 0 t45 3)) (addI IntKind.i64 t45 1))))))) (br (bnot Bool.false) (k0_ ()) (grd (zbg 1 (pF [(gF b3 (Nat.succ (ixO 0 t45 3)))] 0 (muN 1 1))) (br (bnot (zaq 1 (pF [(gF b3 (Nat.succ (ixO 0 t45 3)))] 0 (muN 1 1)))) (k0_ ()) (grd (z71 (gF b3 (Nat.succ (Nat.succ (ixO 0 t45 3))))) (br (bnot (z6m (gF b3 (Nat.succ (Nat.succ (ixO 0 t45 3)))))) (k0_ ()) (kn_ (gF b3 (ixO 0 t45 3)) (addI IntKind.i64 t45 1))))))))) (k1_ t4 t45 (ltI t45 t44)))
theorem zk4 {R R' : Type} (o : Option R → Option R') (h0 : o none = none) (q28 : Nat) (t44 : Int) (b3 : List Nat) (q1r : Nat) (t4 : Nat) (t45 : Int) (kn_ : Nat → Int → Option R) (k0_ : Unit → Option R) (k1_ : Nat → Int → Bool → Option R) : z6x q28 t44 b3 q1r t4 t45 (fun t4' t45' => o (kn_ t4' t45')) (fun _ => o (k0_ ())) (fun c0_ c1_ c2_ => o (k1_ c0_ c1_ c2_)) = o (z6x q28 t44 b3 q1r t4 t45 kn_ k0_ k1_) := by
  unfold z6x
  repeat (first | refine grd_out h0 ?_ | refine br_out ?_ ?_ | rfl | exact h0.symm)
noncomputable def z2o (q28 : Nat) (t44 : Int) (b3 : List Nat) (q1r : Nat) : Nat → Nat → Int → Option ((Unit) ⊕ (Nat × Int × Bool))
  | 0, _, _ => none
  | n + 1, t4, t45 => z6x q28 t44 b3 q1r  t4 t45  (fun t4' t45' => z2o q28 t44 b3 q1r n t4' t45') (fun _ => some (Sum.inl ())) (fun c0_ c1_ c2_ => some (Sum.inr (c0_, c1_, c2_)))
theorem zh3 (q28 : Nat) (t44 : Int) (b3 : List Nat) (q1r : Nat) (n : Nat) (t4 : Nat) (t45 : Int) : z2o q28 t44 b3 q1r (n + 1) t4 t45 = z6x q28 t44 b3 q1r  t4 t45  (fun t4' t45' => z2o q28 t44 b3 q1r n t4' t45') (fun _ => some (Sum.inl ())) (fun c0_ c1_ c2_ => some (Sum.inr (c0_, c1_, c2_))) := rfl
noncomputable def z80 (q28 : Nat) (t44 : Int) (b3 : List Nat) (q1r : Nat) (t4 : Nat) (t45 : Int) : Bool := (z2o q28 t44 b3 q1r big t4 t45).isSome
noncomputable def z7v (q28 : Nat) (t44 : Int) (b3 : List Nat) (q1r : Nat) (t4 : Nat) (t45 : Int) : Bool := oL (z2o q28 t44 b3 q1r big t4 t45)
noncomputable def zd7 (q28 : Nat) (t44 : Int) (b3 : List Nat) (q1r : Nat) (t4 : Nat) (t45 : Int) : Nat := ((tR (z2o q28 t44 b3 q1r big t4 t45)).getD default).1
noncomputable def zdf (q28 : Nat) (t44 : Int) (b3 : List Nat) (q1r : Nat) (t4 : Nat) (t45 : Int) : Int := ((tR (z2o q28 t44 b3 q1r big t4 t45)).getD default).2.1
noncomputable def zdj (q28 : Nat) (t44 : Int) (b3 : List Nat) (q1r : Nat) (t4 : Nat) (t45 : Int) : Bool := ((tR (z2o q28 t44 b3 q1r big t4 t45)).getD default).2.2
theorem zl9 {q28 : Nat} {t44 : Int} {b3 : List Nat} {q1r : Nat} {t4 : Nat} {t45 : Int} {m : Nat} {r : Unit} (hm : m = big) (h : z2o q28 t44 b3 q1r m t4 t45 = some (Sum.inl r)) : z80 q28 t44 b3 q1r t4 t45 = true ∧ z7v q28 t44 b3 q1r t4 t45 = true := by
  subst hm
  unfold z80 z7v
  rw [h]
  exact ⟨rfl, rfl⟩
theorem zkz {q28 : Nat} {t44 : Int} {b3 : List Nat} {q1r : Nat} {t4 : Nat} {t45 : Int} {m : Nat} {r : Nat × Int × Bool} (hm : m = big) (h : z2o q28 t44 b3 q1r m t4 t45 = some (Sum.inr r)) : z80 q28 t44 b3 q1r t4 t45 = true ∧ z7v q28 t44 b3 q1r t4 t45 = false ∧ zd7 q28 t44 b3 q1r t4 t45 = r.1 ∧ zdf q28 t44 b3 q1r t4 t45 = r.2.1 ∧ zdj q28 t44 b3 q1r t4 t45 = r.2.2 := by
  subst hm
  unfold z80 z7v zd7 zdf zdj
  rw [h]
  exact ⟨rfl, rfl, rfl, rfl, rfl⟩
noncomputable def za3 {R : Type} (q00 : Nat) (q05 : List Nat) (q02 : Nat) (q07 : List Nat) (q01 : Nat) (q06 : List Nat) (q03 : Nat) (q0c : List Nat) (q0g : Int) (q0j : Nat) (q0i : Nat) (k_ : Bool → Option R) : Option R := (grd (zd2 q00 (pF q05 0 (muN q00 1)) q02 (pF q07 0 (muN q02 1)) q01 (pF q06 0 (muN q01 1))) (br (bnot (zc6 q00 (pF q05 0 (muN q00 1)) q02 (pF q07 0 (muN q02 1)) q01 (pF q06 0 (muN q01 1)))) (k_ Bool.false) (grd (zgu q0g 1 6) (br (bnot (zfs q0g 1 6)) (k_ Bool.false) (br (ltI (Int.ofNat q03) 2) (k_ Bool.false) (br (ltI 12 (Int.ofNat q03)) (k_ Bool.false) (grd (zfz q0j) (br (bnot (zej q0j)) (k_ Bool.false) (grd (z71 q0i) (br (bnot (z6m q0i)) (k_ Bool.false) (grd (z80 q03 (Int.ofNat q03) q0c q0i q0j 0) (br (z7v q03 (Int.ofNat q03) q0c q0i q0j 0) (k_ Bool.false) (k_ Bool.true)))))))))))))
noncomputable def zad (q00 : Nat) (q05 : List Nat) (q02 : Nat) (q07 : List Nat) (q01 : Nat) (q06 : List Nat) (q03 : Nat) (q0c : List Nat) (q0g : Int) (q0j : Nat) (q0i : Nat) : Option (Bool) := za3 q00 q05 q02 q07 q01 q06 q03 q0c q0g q0j q0i (fun c0_ => some c0_)
theorem zlj {R R' : Type} (o : Option R → Option R') (h0 : o none = none) (q00 : Nat) (q05 : List Nat) (q02 : Nat) (q07 : List Nat) (q01 : Nat) (q06 : List Nat) (q03 : Nat) (q0c : List Nat) (q0g : Int) (q0j : Nat) (q0i : Nat) (k_ : Bool → Option R) : za3 q00 q05 q02 q07 q01 q06 q03 q0c q0g q0j q0i (fun c0_ => o (k_ c0_)) = o (za3 q00 q05 q02 q07 q01 q06 q03 q0c q0g q0j q0i k_) := by
  unfold za3
  repeat (first | refine grd_out h0 ?_ | refine br_out ?_ ?_ | rfl | exact h0.symm)
noncomputable def zf2 (q00 : Nat) (q05 : List Nat) (q02 : Nat) (q07 : List Nat) (q01 : Nat) (q06 : List Nat) (q03 : Nat) (q0c : List Nat) (q0g : Int) (q0j : Nat) (q0i : Nat) : Bool := (zad q00 q05 q02 q07 q01 q06 q03 q0c q0g q0j q0i).isSome
noncomputable def zee (q00 : Nat) (q05 : List Nat) (q02 : Nat) (q07 : List Nat) (q01 : Nat) (q06 : List Nat) (q03 : Nat) (q0c : List Nat) (q0g : Int) (q0j : Nat) (q0i : Nat) : Bool := ((zad q00 q05 q02 q07 q01 q06 q03 q0c q0g q0j q0i).getD default)
theorem znu {q00 : Nat} {q05 : List Nat} {q02 : Nat} {q07 : List Nat} {q01 : Nat} {q06 : List Nat} {q03 : Nat} {q0c : List Nat} {q0g : Int} {q0j : Nat} {q0i : Nat} {r : Bool} (h : zad q00 q05 q02 q07 q01 q06 q03 q0c q0g q0j q0i = some r) : zf2 q00 q05 q02 q07 q01 q06 q03 q0c q0g q0j q0i = true ∧ zee q00 q05 q02 q07 q01 q06 q03 q0c q0g q0j q0i = r := by
  unfold zf2 zee
  rw [h]
  exact ⟨rfl, rfl⟩
noncomputable def zbi {R : Type} (q09 : Nat) (q0d : List Nat) (q0a : Nat) (q0e : List Nat) (q0b : Nat) (q0f : List Nat) (q0h : Nat) (q0k : List Nat) (q0w : Int) (q13 : Nat) (q12 : Nat) (i : Int) (q1e : Nat) (q1b : Nat) (k_ : Nat → Nat → Bool → Option R) : Option R := (grd (zfb q09 (pF q0d 0 (muN q09 1)) q0a (pF q0e 0 (muN q0a 1)) q0b (pF q0f 0 (muN q0b 1)) q0h (pF q0k 0 (muN q0h 3)) q0w q13 q12 i) (br (bnot (zdw q09 (pF q0d 0 (muN q09 1)) q0a (pF q0e 0 (muN q0a 1)) q0b (pF q0f 0 (muN q0b 1)) q0h (pF q0k 0 (muN q0h 3)) q0w q13 q12 i)) (k_ 0 0 Bool.false) (grd (zi0 q1e) (br (bnot (zh9 q1e)) (k_ 0 0 Bool.false) (grd (z51 q1b) (br (bnot (z4b q1b)) (k_ 0 0 Bool.false) (grd (zh5 q09 (pF q0d 0 (muN q09 1)) q0a (pF q0e 0 (muN q0a 1)) q0b (pF q0f 0 (muN q0b 1)) q0h (pF q0k 0 (muN q0h 3)) q0w q13 q12 i q1b) (br (bnot (zgn q09 (pF q0d 0 (muN q09 1)) q0a (pF q0e 0 (muN q0a 1)) q0b (pF q0f 0 (muN q0b 1)) q0h (pF q0k 0 (muN q0h 3)) q0w q13 q12 i q1b)) (k_ 0 0 Bool.false) (grd (zgf q09 (pF q0d 0 (muN q09 1)) q0a (pF q0e 0 (muN q0a 1)) q0b (pF q0f 0 (muN q0b 1)) q0h (pF q0k 0 (muN q0h 3)) q0w q13 q12 i q1e q1b) (grd (zif (z8w q09 (pF q0d 0 (muN q09 1)) q0a (pF q0e 0 (muN q0a 1)) q0b (pF q0f 0 (muN q0b 1)) q0h (pF q0k 0 (muN q0h 3)) q0w q13 q12 i q1e q1b) (z90 q09 (pF q0d 0 (muN q09 1)) q0a (pF q0e 0 (muN q0a 1)) q0b (pF q0f 0 (muN q0b 1)) q0h (pF q0k 0 (muN q0h 3)) q0w q13 q12 i q1e q1b)) (k_ (zi7 (z8w q09 (pF q0d 0 (muN q09 1)) q0a (pF q0e 0 (muN q0a 1)) q0b (pF q0f 0 (muN q0b 1)) q0h (pF q0k 0 (muN q0h 3)) q0w q13 q12 i q1e q1b) (z90 q09 (pF q0d 0 (muN q09 1)) q0a (pF q0e 0 (muN q0a 1)) q0b (pF q0f 0 (muN q0b 1)) q0h (pF q0k 0 (muN q0h 3)) q0w q13 q12 i q1e q1b)) (zht (z8w q09 (pF q0d 0 (muN q09 1)) q0a (pF q0e 0 (muN q0a 1)) q0b (pF q0f 0 (muN q0b 1)) q0h (pF q0k 0 (muN q0h 3)) q0w q13 q12 i q1e q1b) (z90 q09 (pF q0d 0 (muN q09 1)) q0a (pF q0e 0 (muN q0a 1)) q0b (pF q0f 0 (muN q0b 1)) q0h (pF q0k 0 (muN q0h 3)) q0w q13 q12 i q1e q1b)) (zi6 (z8w q09 (pF q0d 0 (muN q09 1)) q0a (pF q0e 0 (muN q0a 1)) q0b (pF q0f 0 (muN q0b 1)) q0h (pF q0k 0 (muN q0h 3)) q0w q13 q12 i q1e q1b) (z90 q09 (pF q0d 0 (muN q09 1)) q0a (pF q0e 0 (muN q0a 1)) q0b (pF q0f 0 (muN q0b 1)) q0h (pF q0k 0 (muN q0h 3)) q0w q13 q12 i q1e q1b)))))))))))))
noncomputable def z93 (q09 : Nat) (q0d : List Nat) (q0a : Nat) (q0e : List Nat) (q0b : Nat) (q0f : List Nat) (q0h : Nat) (q0k : List Nat) (q0w : Int) (q13 : Nat) (q12 : Nat) (i : Int) (q1e : Nat) (q1b : Nat) : Option (Nat × Nat × Bool) := zbi q09 q0d q0a q0e q0b q0f q0h q0k q0w q13 q12 i q1e q1b (fun c0_ c1_ c2_ => some (c0_, c1_, c2_))
theorem znc {R R' : Type} (o : Option R → Option R') (h0 : o none = none) (q09 : Nat) (q0d : List Nat) (q0a : Nat) (q0e : List Nat) (q0b : Nat) (q0f : List Nat) (q0h : Nat) (q0k : List Nat) (q0w : Int) (q13 : Nat) (q12 : Nat) (i : Int) (q1e : Nat) (q1b : Nat) (k_ : Nat → Nat → Bool → Option R) : zbi q09 q0d q0a q0e q0b q0f q0h q0k q0w q13 q12 i q1e q1b (fun c0_ c1_ c2_ => o (k_ c0_ c1_ c2_)) = o (zbi q09 q0d q0a q0e q0b q0f q0h q0k q0w q13 q12 i q1e q1b k_) := by
  unfold zbi
  repeat (first | refine grd_out h0 ?_ | refine br_out ?_ ?_ | rfl | exact h0.symm)
noncomputable def zh2 (q09 : Nat) (q0d : List Nat) (q0a : Nat) (q0e : List Nat) (q0b : Nat) (q0f : List Nat) (q0h : Nat) (q0k : List Nat) (q0w : Int) (q13 : Nat) (q12 : Nat) (i : Int) (q1e : Nat) (q1b : Nat) : Bool := (z93 q09 q0d q0a q0e q0b q0f q0h q0k q0w q13 q12 i q1e q1b).isSome
noncomputable def zct (q09 : Nat) (q0d : List Nat) (q0a : Nat) (q0e : List Nat) (q0b : Nat) (q0f : List Nat) (q0h : Nat) (q0k : List Nat) (q0w : Int) (q13 : Nat) (q12 : Nat) (i : Int) (q1e : Nat) (q1b : Nat) : Nat := ((z93 q09 q0d q0a q0e q0b q0f q0h q0k q0w q13 q12 i q1e q1b).getD default).1
noncomputable def zcs (q09 : Nat) (q0d : List Nat) (q0a : Nat) (q0e : List Nat) (q0b : Nat) (q0f : List Nat) (q0h : Nat) (q0k : List Nat) (q0w : Int) (q13 : Nat) (q12 : Nat) (i : Int) (q1e : Nat) (q1b : Nat) : Nat := ((z93 q09 q0d q0a q0e q0b q0f q0h q0k q0w q13 q12 i q1e q1b).getD default).2.1
noncomputable def zgo (q09 : Nat) (q0d : List Nat) (q0a : Nat) (q0e : List Nat) (q0b : Nat) (q0f : List Nat) (q0h : Nat) (q0k : List Nat) (q0w : Int) (q13 : Nat) (q12 : Nat) (i : Int) (q1e : Nat) (q1b : Nat) : Bool := ((z93 q09 q0d q0a q0e q0b q0f q0h q0k q0w q13 q12 i q1e q1b).getD default).2.2
theorem zpc {q09 : Nat} {q0d : List Nat} {q0a : Nat} {q0e : List Nat} {q0b : Nat} {q0f : List Nat} {q0h : Nat} {q0k : List Nat} {q0w : Int} {q13 : Nat} {q12 : Nat} {i : Int} {q1e : Nat} {q1b : Nat} {r : Nat × Nat × Bool} (h : z93 q09 q0d q0a q0e q0b q0f q0h q0k q0w q13 q12 i q1e q1b = some r) : zh2 q09 q0d q0a q0e q0b q0f q0h q0k q0w q13 q12 i q1e q1b = true ∧ zct q09 q0d q0a q0e q0b q0f q0h q0k q0w q13 q12 i q1e q1b = r.1 ∧ zcs q09 q0d q0a q0e q0b q0f q0h q0k q0w q13 q12 i q1e q1b = r.2.1 ∧ zgo q09 q0d q0a q0e q0b q0f q0h q0k q0w q13 q12 i q1e q1b = r.2.2 := by
  unfold zh2 zct zcs zgo
  rw [h]
  exact ⟨rfl, rfl, rfl, rfl⟩
noncomputable def zbj {R : Type} (q09 : Nat) (q0d : List Nat) (q0a : Nat) (q0e : List Nat) (q0b : Nat) (q0f : List Nat) (q0h : Nat) (q0k : List Nat) (q0w : Int) (q13 : Nat) (q12 : Nat) (i : Int) (q1e : Nat) (q1b : Nat) (k_ : Nat → Nat → Bool → Option R) : Option R := (grd (zf2 q09 (pF q0d 0 (muN q09 1)) q0a (pF q0e 0 (muN q0a 1)) q0b (pF q0f 0 (muN q0b 1)) q0h (pF q0k 0 (muN q0h 3)) q0w q13 q12) (br (bnot (zee q09 (pF q0d 0 (muN q09 1)) q0a (pF q0e 0 (muN q0a 1)) q0b (pF q0f 0 (muN q0b 1)) q0h (pF q0k 0 (muN q0h 3)) q0w q13 q12)) (k_ 0 0 Bool.false) (grd (zbf q09 (pF q0d 0 (muN q09 1)) q0a (pF q0e 0 (muN q0a 1)) q0b (pF q0f 0 (muN q0b 1)) q0h (pF q0k 0 (muN q0h 3)) q0w q13 q12 i) (br (bnot (zap q09 (pF q0d 0 (muN q09 1)) q0a (pF q0e 0 (muN q0a 1)) q0b (pF q0f 0 (muN q0b 1)) q0h (pF q0k 0 (muN q0h 3)) q0w q13 q12 i)) (k_ 0 0 Bool.false) (grd (zii q1e) (br (bnot (zi1 q1e)) (k_ 0 0 Bool.false) (grd (z71 q1b) (br (bnot (z6m q1b)) (k_ 0 0 Bool.false) (grd (okIx i q0h) (grd (z71 (fop BinOp.sub FloatKind.f32 (fop BinOp.sub FloatKind.f32 q1e (gF q0k (Nat.succ (Nat.succ (ixO 0 i 3))))) q1b)) (br (bnot (z6m (fop BinOp.sub FloatKind.f32 (fop BinOp.sub FloatKind.f32 q1e (gF q0k (Nat.succ (Nat.succ (ixO 0 i 3))))) q1b))) (k_ 0 0 Bool.false) (grd (zd3 q09 (pF q0d 0 (muN q09 1)) q0a (pF q0e 0 (muN q0a 1)) q0b (pF q0f 0 (muN q0b 1)) q0h (pF q0k 0 (muN q0h 3)) q0w q13 q12 i q1e q1b) (grd (zff (z81 q09 (pF q0d 0 (muN q09 1)) q0a (pF q0e 0 (muN q0a 1)) q0b (pF q0f 0 (muN q0b 1)) q0h (pF q0k 0 (muN q0h 3)) q0w q13 q12 i q1e q1b) (z82 q09 (pF q0d 0 (muN q09 1)) q0a (pF q0e 0 (muN q0a 1)) q0b (pF q0f 0 (muN q0b 1)) q0h (pF q0k 0 (muN q0h 3)) q0w q13 q12 i q1e q1b)) (k_ (ze4 (z81 q09 (pF q0d 0 (muN q09 1)) q0a (pF q0e 0 (muN q0a 1)) q0b (pF q0f 0 (muN q0b 1)) q0h (pF q0k 0 (muN q0h 3)) q0w q13 q12 i q1e q1b) (z82 q09 (pF q0d 0 (muN q09 1)) q0a (pF q0e 0 (muN q0a 1)) q0b (pF q0f 0 (muN q0b 1)) q0h (pF q0k 0 (muN q0h 3)) q0w q13 q12 i q1e q1b)) (zei (z81 q09 (pF q0d 0 (muN q09 1)) q0a (pF q0e 0 (muN q0a 1)) q0b (pF q0f 0 (muN q0b 1)) q0h (pF q0k 0 (muN q0h 3)) q0w q13 q12 i q1e q1b) (z82 q09 (pF q0d 0 (muN q09 1)) q0a (pF q0e 0 (muN q0a 1)) q0b (pF q0f 0 (muN q0b 1)) q0h (pF q0k 0 (muN q0h 3)) q0w q13 q12 i q1e q1b)) (zdx (z81 q09 (pF q0d 0 (muN q09 1)) q0a (pF q0e 0 (muN q0a 1)) q0b (pF q0f 0 (muN q0b 1)) q0h (pF q0k 0 (muN q0h 3)) q0w q13 q12 i q1e q1b) (z82 q09 (pF q0d 0 (muN q09 1)) q0a (pF q0e 0 (muN q0a 1)) q0b (pF q0f 0 (muN q0b 1)) q0h (pF q0k 0 (muN q0h 3)) q0w q13 q12 i q1e q1b))))))))))))))))
noncomputable def z92 (q09 : Nat) (q0d : List Nat) (q0a : Nat) (q0e : List Nat) (q0b : Nat) (q0f : List Nat) (q0h : Nat) (q0k : List Nat) (q0w : Int) (q13 : Nat) (q12 : Nat) (i : Int) (q1e : Nat) (q1b : Nat) : Option (Nat × Nat × Bool) := zbj q09 q0d q0a q0e q0b q0f q0h q0k q0w q13 q12 i q1e q1b (fun c0_ c1_ c2_ => some (c0_, c1_, c2_))
theorem zng {R R' : Type} (o : Option R → Option R') (h0 : o none = none) (q09 : Nat) (q0d : List Nat) (q0a : Nat) (q0e : List Nat) (q0b : Nat) (q0f : List Nat) (q0h : Nat) (q0k : List Nat) (q0w : Int) (q13 : Nat) (q12 : Nat) (i : Int) (q1e : Nat) (q1b : Nat) (k_ : Nat → Nat → Bool → Option R) : zbj q09 q0d q0a q0e q0b q0f q0h q0k q0w q13 q12 i q1e q1b (fun c0_ c1_ c2_ => o (k_ c0_ c1_ c2_)) = o (zbj q09 q0d q0a q0e q0b q0f q0h q0k q0w q13 q12 i q1e q1b k_) := by
  unfold zbj
  repeat (first | refine grd_out h0 ?_ | refine br_out ?_ ?_ | rfl | exact h0.symm)
noncomputable def zhd (q09 : Nat) (q0d : List Nat) (q0a : Nat) (q0e : List Nat) (q0b : Nat) (q0f : List Nat) (q0h : Nat) (q0k : List Nat) (q0w : Int) (q13 : Nat) (q12 : Nat) (i : Int) (q1e : Nat) (q1b : Nat) : Bool := (z92 q09 q0d q0a q0e q0b q0f q0h q0k q0w q13 q12 i q1e q1b).isSome
noncomputable def zcx (q09 : Nat) (q0d : List Nat) (q0a : Nat) (q0e : List Nat) (q0b : Nat) (q0f : List Nat) (q0h : Nat) (q0k : List Nat) (q0w : Int) (q13 : Nat) (q12 : Nat) (i : Int) (q1e : Nat) (q1b : Nat) : Nat := ((z92 q09 q0d q0a q0e q0b q0f q0h q0k q0w q13 q12 i q1e q1b).getD default).1
noncomputable def zcv (q09 : Nat) (q0d : List Nat) (q0a : Nat) (q0e : List Nat) (q0b : Nat) (q0f : List Nat) (q0h : Nat) (q0k : List Nat) (q0w : Int) (q13 : Nat) (q12 : Nat) (i : Int) (q1e : Nat) (q1b : Nat) : Nat := ((z92 q09 q0d q0a q0e q0b q0f q0h q0k q0w q13 q12 i q1e q1b).getD default).2.1
noncomputable def zgk (q09 : Nat) (q0d : List Nat) (q0a : Nat) (q0e : List Nat) (q0b : Nat) (q0f : List Nat) (q0h : Nat) (q0k : List Nat) (q0w : Int) (q13 : Nat) (q12 : Nat) (i : Int) (q1e : Nat) (q1b : Nat) : Bool := ((z92 q09 q0d q0a q0e q0b q0f q0h q0k q0w q13 q12 i q1e q1b).getD default).2.2
theorem zpb {q09 : Nat} {q0d : List Nat} {q0a : Nat} {q0e : List Nat} {q0b : Nat} {q0f : List Nat} {q0h : Nat} {q0k : List Nat} {q0w : Int} {q13 : Nat} {q12 : Nat} {i : Int} {q1e : Nat} {q1b : Nat} {r : Nat × Nat × Bool} (h : z92 q09 q0d q0a q0e q0b q0f q0h q0k q0w q13 q12 i q1e q1b = some r) : zhd q09 q0d q0a q0e q0b q0f q0h q0k q0w q13 q12 i q1e q1b = true ∧ zcx q09 q0d q0a q0e q0b q0f q0h q0k q0w q13 q12 i q1e q1b = r.1 ∧ zcv q09 q0d q0a q0e q0b q0f q0h q0k q0w q13 q12 i q1e q1b = r.2.1 ∧ zgk q09 q0d q0a q0e q0b q0f q0h q0k q0w q13 q12 i q1e q1b = r.2.2 := by
  unfold zhd zcx zcv zgk
  rw [h]
  exact ⟨rfl, rfl, rfl, rfl⟩
noncomputable def z87 {R : Type} (q00 : Nat) (q05 : List Nat) (q02 : Nat) (q07 : List Nat) (q01 : Nat) (q06 : List Nat) (q03 : Nat) (q0c : List Nat) (q0g : Int) (q0j : Nat) (q0i : Nat) (x1 : Int) (x2 : Nat) (x3 : Nat) (k_ : Bool → Option R) : Option R := (grd (zg0 q00 (pF q05 0 (muN q00 1)) q02 (pF q07 0 (muN q02 1)) q01 (pF q06 0 (muN q01 1)) q03 (pF q0c 0 (muN q03 3)) q0g q0j q0i 1048576) (br (ltI (zdy q00 (pF q05 0 (muN q00 1)) q02 (pF q07 0 (muN q02 1)) q01 (pF q06 0 (muN q01 1)) q03 (pF q0c 0 (muN q03 3)) q0g q0j q0i 1048576) 0) (k_ Bool.true) (grd (zb1 q00 (pF q05 0 (muN q00 1)) q02 (pF q07 0 (muN q02 1)) q01 (pF q06 0 (muN q01 1)) q03 (pF q0c 0 (muN q03 3)) q0g q0j q0i) (grd (zh2 (z0u q00 (pF q05 0 (muN q00 1)) q02 (pF q07 0 (muN q02 1)) q01 (pF q06 0 (muN q01 1)) q03 (pF q0c 0 (muN q03 3)) q0g q0j q0i) (pF (z3k q00 (pF q05 0 (muN q00 1)) q02 (pF q07 0 (muN q02 1)) q01 (pF q06 0 (muN q01 1)) q03 (pF q0c 0 (muN q03 3)) q0g q0j q0i) 0 (muN (z0u q00 (pF q05 0 (muN q00 1)) q02 (pF q07 0 (muN q02 1)) q01 (pF q06 0 (muN q01 1)) q03 (pF q0c 0 (muN q03 3)) q0g q0j q0i) 1)) (z0t q00 (pF q05 0 (muN q00 1)) q02 (pF q07 0 (muN q02 1)) q01 (pF q06 0 (muN q01 1)) q03 (pF q0c 0 (muN q03 3)) q0g q0j q0i) (pF (z3m q00 (pF q05 0 (muN q00 1)) q02 (pF q07 0 (muN q02 1)) q01 (pF q06 0 (muN q01 1)) q03 (pF q0c 0 (muN q03 3)) q0g q0j q0i) 0 (muN (z0t q00 (pF q05 0 (muN q00 1)) q02 (pF q07 0 (muN q02 1)) q01 (pF q06 0 (muN q01 1)) q03 (pF q0c 0 (muN q03 3)) q0g q0j q0i) 1)) (z0s q00 (pF q05 0 (muN q00 1)) q02 (pF q07 0 (muN q02 1)) q01 (pF q06 0 (muN q01 1)) q03 (pF q0c 0 (muN q03 3)) q0g q0j q0i) (pF (z3i q00 (pF q05 0 (muN q00 1)) q02 (pF q07 0 (muN q02 1)) q01 (pF q06 0 (muN q01 1)) q03 (pF q0c 0 (muN q03 3)) q0g q0j q0i) 0 (muN (z0s q00 (pF q05 0 (muN q00 1)) q02 (pF q07 0 (muN q02 1)) q01 (pF q06 0 (muN q01 1)) q03 (pF q0c 0 (muN q03 3)) q0g q0j q0i) 1)) (z0v q00 (pF q05 0 (muN q00 1)) q02 (pF q07 0 (muN q02 1)) q01 (pF q06 0 (muN q01 1)) q03 (pF q0c 0 (muN q03 3)) q0g q0j q0i) (pF (z3o q00 (pF q05 0 (muN q00 1)) q02 (pF q07 0 (muN q02 1)) q01 (pF q06 0 (muN q01 1)) q03 (pF q0c 0 (muN q03 3)) q0g q0j q0i) 0 (muN (z0v q00 (pF q05 0 (muN q00 1)) q02 (pF q07 0 (muN q02 1)) q01 (pF q06 0 (muN q01 1)) q03 (pF q0c 0 (muN q03 3)) q0g q0j q0i) 3)) q0g q0j q0i x1 x2 x3) (grd (zb1 q00 (pF q05 0 (muN q00 1)) q02 (pF q07 0 (muN q02 1)) q01 (pF q06 0 (muN q01 1)) q03 (pF q0c 0 (muN q03 3)) q0g q0j q0i) (grd (zhd (z0u q00 (pF q05 0 (muN q00 1)) q02 (pF q07 0 (muN q02 1)) q01 (pF q06 0 (muN q01 1)) q03 (pF q0c 0 (muN q03 3)) q0g q0j q0i) (pF (z3k q00 (pF q05 0 (muN q00 1)) q02 (pF q07 0 (muN q02 1)) q01 (pF q06 0 (muN q01 1)) q03 (pF q0c 0 (muN q03 3)) q0g q0j q0i) 0 (muN (z0u q00 (pF q05 0 (muN q00 1)) q02 (pF q07 0 (muN q02 1)) q01 (pF q06 0 (muN q01 1)) q03 (pF q0c 0 (muN q03 3)) q0g q0j q0i) 1)) (z0t q00 (pF q05 0 (muN q00 1)) q02 (pF q07 0 (muN q02 1)) q01 (pF q06 0 (muN q01 1)) q03 (pF q0c 0 (muN q03 3)) q0g q0j q0i) (pF (z3m q00 (pF q05 0 (muN q00 1)) q02 (pF q07 0 (muN q02 1)) q01 (pF q06 0 (muN q01 1)) q03 (pF q0c 0 (muN q03 3)) q0g q0j q0i) 0 (muN (z0t q00 (pF q05 0 (muN q00 1)) q02 (pF q07 0 (muN q02 1)) q01 (pF q06 0 (muN q01 1)) q03 (pF q0c 0 (muN q03 3)) q0g q0j q0i) 1)) (z0s q00 (pF q05 0 (muN q00 1)) q02 (pF q07 0 (muN q02 1)) q01 (pF q06 0 (muN q01 1)) q03 (pF q0c 0 (muN q03 3)) q0g q0j q0i) (pF (z3i q00 (pF q05 0 (muN q00 1)) q02 (pF q07 0 (muN q02 1)) q01 (pF q06 0 (muN q01 1)) q03 (pF q0c 0 (muN q03 3)) q0g q0j q0i) 0 (muN (z0s q00 (pF q05 0 (muN q00 1)) q02 (pF q07 0 (muN q02 1)) q01 (pF q06 0 (muN q01 1)) q03 (pF q0c 0 (muN q03 3)) q0g q0j q0i) 1)) (z0v q00 (pF q05 0 (muN q00 1)) q02 (pF q07 0 (muN q02 1)) q01 (pF q06 0 (muN q01 1)) q03 (pF q0c 0 (muN q03 3)) q0g q0j q0i) (pF (z3o q00 (pF q05 0 (muN q00 1)) q02 (pF q07 0 (muN q02 1)) q01 (pF q06 0 (muN q01 1)) q03 (pF q0c 0 (muN q03 3)) q0g q0j q0i) 0 (muN (z0v q00 (pF q05 0 (muN q00 1)) q02 (pF q07 0 (muN q02 1)) q01 (pF q06 0 (muN q01 1)) q03 (pF q0c 0 (muN q03 3)) q0g q0j q0i) 3)) q0g q0j q0i x1 x2 x3) (grd (z78 (fcvV FloatKind.f32 FloatKind.f64 (zcx (z0u q00 (pF q05 0 (muN q00 1)) q02 (pF q07 0 (muN q02 1)) q01 (pF q06 0 (muN q01 1)) q03 (pF q0c 0 (muN q03 3)) q0g q0j q0i) (pF (z3k q00 (pF q05 0 (muN q00 1)) q02 (pF q07 0 (muN q02 1)) q01 (pF q06 0 (muN q01 1)) q03 (pF q0c 0 (muN q03 3)) q0g q0j q0i) 0 (muN (z0u q00 (pF q05 0 (muN q00 1)) q02 (pF q07 0 (muN q02 1)) q01 (pF q06 0 (muN q01 1)) q03 (pF q0c 0 (muN q03 3)) q0g q0j q0i) 1)) (z0t q00 (pF q05 0 (muN q00 1)) q02 (pF q07 0 (muN q02 1)) q01 (pF q06 0 (muN q01 1)) q03 (pF q0c 0 (muN q03 3)) q0g q0j q0i) (pF (z3m q00 (pF q05 0 (muN q00 1)) q02 (pF q07 0 (muN q02 1)) q01 (pF q06 0 (muN q01 1)) q03 (pF q0c 0 (muN q03 3)) q0g q0j q0i) 0 (muN (z0t q00 (pF q05 0 (muN q00 1)) q02 (pF q07 0 (muN q02 1)) q01 (pF q06 0 (muN q01 1)) q03 (pF q0c 0 (muN q03 3)) q0g q0j q0i) 1)) (z0s q00 (pF q05 0 (muN q00 1)) q02 (pF q07 0 (muN q02 1)) q01 (pF q06 0 (muN q01 1)) q03 (pF q0c 0 (muN q03 3)) q0g q0j q0i) (pF (z3i q00 (pF q05 0 (muN q00 1)) q02 (pF q07 0 (muN q02 1)) q01 (pF q06 0 (muN q01 1)) q03 (pF q0c 0 (muN q03 3)) q0g q0j q0i) 0 (muN (z0s q00 (pF q05 0 (muN q00 1)) q02 (pF q07 0 (muN q02 1)) q01 (pF q06 0 (muN q01 1)) q03 (pF q0c 0 (muN q03 3)) q0g q0j q0i) 1)) (z0v q00 (pF q05 0 (muN q00 1)) q02 (pF q07 0 (muN q02 1)) q01 (pF q06 0 (muN q01 1)) q03 (pF q0c 0 (muN q03 3)) q0g q0j q0i) (pF (z3o q00 (pF q05 0 (muN q00 1)) q02 (pF q07 0 (muN q02 1)) q01 (pF q06 0 (muN q01 1)) q03 (pF q0c 0 (muN q03 3)) q0g q0j q0i) 0 (muN (z0v q00 (pF q05 0 (muN q00 1)) q02 (pF q07 0 (muN q02 1)) q01 (pF q06 0 (muN q01 1)) q03 (pF q0c 0 (muN q03 3)) q0g q0j q0i) 3)) q0g q0j q0i x1 x2 x3)) (fcvV FloatKind.f32 FloatKind.f64 (zct (z0u q00 (pF q05 0 (muN q00 1)) q02 (pF q07 0 (muN q02 1)) q01 (pF q06 0 (muN q01 1)) q03 (pF q0c 0 (muN q03 3)) q0g q0j q0i) (pF (z3k q00 (pF q05 0 (muN q00 1)) q02 (pF q07 0 (muN q02 1)) q01 (pF q06 0 (muN q01 1)) q03 (pF q0c 0 (muN q03 3)) q0g q0j q0i) 0 (muN (z0u q00 (pF q05 0 (muN q00 1)) q02 (pF q07 0 (muN q02 1)) q01 (pF q06 0 (muN q01 1)) q03 (pF q0c 0 (muN q03 3)) q0g q0j q0i) 1)) (z0t q00 (pF q05 0 (muN q00 1)) q02 (pF q07 0 (muN q02 1)) q01 (pF q06 0 (muN q01 1)) q03 (pF q0c 0 (muN q03 3)) q0g q0j q0i) (pF (z3m q00 (pF q05 0 (muN q00 1)) q02 (pF q07 0 (muN q02 1)) q01 (pF q06 0 (muN q01 1)) q03 (pF q0c 0 (muN q03 3)) q0g q0j q0i) 0 (muN (z0t q00 (pF q05 0 (muN q00 1)) q02 (pF q07 0 (muN q02 1)) q01 (pF q06 0 (muN q01 1)) q03 (pF q0c 0 (muN q03 3)) q0g q0j q0i) 1)) (z0s q00 (pF q05 0 (muN q00 1)) q02 (pF q07 0 (muN q02 1)) q01 (pF q06 0 (muN q01 1)) q03 (pF q0c 0 (muN q03 3)) q0g q0j q0i) (pF (z3i q00 (pF q05 0 (muN q00 1)) q02 (pF q07 0 (muN q02 1)) q01 (pF q06 0 (muN q01 1)) q03 (pF q0c 0 (muN q03 3)) q0g q0j q0i) 0 (muN (z0s q00 (pF q05 0 (muN q00 1)) q02 (pF q07 0 (muN q02 1)) q01 (pF q06 0 (muN q01 1)) q03 (pF q0c 0 (muN q03 3)) q0g q0j q0i) 1)) (z0v q00 (pF q05 0 (muN q00 1)) q02 (pF q07 0 (muN q02 1)) q01 (pF q06 0 (muN q01 1)) q03 (pF q0c 0 (muN q03 3)) q0g q0j q0i) (pF (z3o q00 (pF q05 0 (muN q00 1)) q02 (pF q07 0 (muN q02 1)) q01 (pF q06 0 (muN q01 1)) q03 (pF q0c 0 (muN q03 3)) q0g q0j q0i) 0 (muN (z0v q00 (pF q05 0 (muN q00 1)) q02 (pF q07 0 (muN q02 1)) q01 (pF q06 0 (muN q01 1)) q03 (pF q0c 0 (muN q03 3)) q0g q0j q0i) 3)) q0g q0j q0i x1 x2 x3))) (br (bnot (z6q (fcvV FloatKind.f32 FloatKind.f64 (zcx (z0u q00 (pF q05 0 (muN q00 1)) q02 (pF q07 0 (muN q02 1)) q01 (pF q06 0 (muN q01 1)) q03 (pF q0c 0 (muN q03 3)) q0g q0j q0i) (pF (z3k q00 (pF q05 0 (muN q00 1)) q02 (pF q07 0 (muN q02 1)) q01 (pF q06 0 (muN q01 1)) q03 (pF q0c 0 (muN q03 3)) q0g q0j q0i) 0 (muN (z0u q00 (pF q05 0 (muN q00 1)) q02 (pF q07 0 (muN q02 1)) q01 (pF q06 0 (muN q01 1)) q03 (pF q0c 0 (muN q03 3)) q0g q0j q0i) 1)) (z0t q00 (pF q05 0 (muN q00 1)) q02 (pF q07 0 (muN q02 1)) q01 (pF q06 0 (muN q01 1)) q03 (pF q0c 0 (muN q03 3)) q0g q0j q0i) (pF (z3m q00 (pF q05 0 (muN q00 1)) q02 (pF q07 0 (muN q02 1)) q01 (pF q06 0 (muN q01 1)) q03 (pF q0c 0 (muN q03 3)) q0g q0j q0i) 0 (muN (z0t q00 (pF q05 0 (muN q00 1)) q02 (pF q07 0 (muN q02 1)) q01 (pF q06 0 (muN q01 1)) q03 (pF q0c 0 (muN q03 3)) q0g q0j q0i) 1)) (z0s q00 (pF q05 0 (muN q00 1)) q02 (pF q07 0 (muN q02 1)) q01 (pF q06 0 (muN q01 1)) q03 (pF q0c 0 (muN q03 3)) q0g q0j q0i) (pF (z3i q00 (pF q05 0 (muN q00 1)) q02 (pF q07 0 (muN q02 1)) q01 (pF q06 0 (muN q01 1)) q03 (pF q0c 0 (muN q03 3)) q0g q0j q0i) 0 (muN (z0s q00 (pF q05 0 (muN q00 1)) q02 (pF q07 0 (muN q02 1)) q01 (pF q06 0 (muN q01 1)) q03 (pF q0c 0 (muN q03 3)) q0g q0j q0i) 1)) (z0v q00 (pF q05 0 (muN q00 1)) q02 (pF q07 0 (muN q02 1)) q01 (pF q06 0 (muN q01 1)) q03 (pF q0c 0 (muN q03 3)) q0g q0j q0i) (pF (z3o q00 (pF q05 0 (muN q00 1)) q02 (pF q07 0 (muN q02 1)) q01 (pF q06 0 (muN q01 1)) q03 (pF q0c 0 (muN q03 3)) q0g q0j q0i) 0 (muN (z0v q00 (pF q05 0 (muN q00 1)) q02 (pF q07 0 (muN q02 1)) q01 (pF q06 0 (muN q01 1)) q03 (pF q0c 0 (muN q03 3)) q0g q0j q0i) 3)) q0g q0j q0i x1 x2 x3)) (fcvV FloatKind.f32 FloatKind.f64 (zct (z0u q00 (pF q05 0 (muN q00 1)) q02 (pF q07 0 (muN q02 1)) q01 (pF q06 0 (muN q01 1)) q03 (pF q0c 0 (muN q03 3)) q0g q0j q0i) (pF (z3k q00 (pF q05 0 (muN q00 1)) q02 (pF q07 0 (muN q02 1)) q01 (pF q06 0 (muN q01 1)) q03 (pF q0c 0 (muN q03 3)) q0g q0j q0i) 0 (muN (z0u q00 (pF q05 0 (muN q00 1)) q02 (pF q07 0 (muN q02 1)) q01 (pF q06 0 (muN q01 1)) q03 (pF q0c 0 (muN q03 3)) q0g q0j q0i) 1)) (z0t q00 (pF q05 0 (muN q00 1)) q02 (pF q07 0 (muN q02 1)) q01 (pF q06 0 (muN q01 1)) q03 (pF q0c 0 (muN q03 3)) q0g q0j q0i) (pF (z3m q00 (pF q05 0 (muN q00 1)) q02 (pF q07 0 (muN q02 1)) q01 (pF q06 0 (muN q01 1)) q03 (pF q0c 0 (muN q03 3)) q0g q0j q0i) 0 (muN (z0t q00 (pF q05 0 (muN q00 1)) q02 (pF q07 0 (muN q02 1)) q01 (pF q06 0 (muN q01 1)) q03 (pF q0c 0 (muN q03 3)) q0g q0j q0i) 1)) (z0s q00 (pF q05 0 (muN q00 1)) q02 (pF q07 0 (muN q02 1)) q01 (pF q06 0 (muN q01 1)) q03 (pF q0c 0 (muN q03 3)) q0g q0j q0i) (pF (z3i q00 (pF q05 0 (muN q00 1)) q02 (pF q07 0 (muN q02 1)) q01 (pF q06 0 (muN q01 1)) q03 (pF q0c 0 (muN q03 3)) q0g q0j q0i) 0 (muN (z0s q00 (pF q05 0 (muN q00 1)) q02 (pF q07 0 (muN q02 1)) q01 (pF q06 0 (muN q01 1)) q03 (pF q0c 0 (muN q03 3)) q0g q0j q0i) 1)) (z0v q00 (pF q05 0 (muN q00 1)) q02 (pF q07 0 (muN q02 1)) q01 (pF q06 0 (muN q01 1)) q03 (pF q0c 0 (muN q03 3)) q0g q0j q0i) (pF (z3o q00 (pF q05 0 (muN q00 1)) q02 (pF q07 0 (muN q02 1)) q01 (pF q06 0 (muN q01 1)) q03 (pF q0c 0 (muN q03 3)) q0g q0j q0i) 0 (muN (z0v q00 (pF q05 0 (muN q00 1)) q02 (pF q07 0 (muN q02 1)) q01 (pF q06 0 (muN q01 1)) q03 (pF q0c 0 (muN q03 3)) q0g q0j q0i) 3)) q0g q0j q0i x1 x2 x3)))) (k_ Bool.false) (grd (z78 (fcvV FloatKind.f32 FloatKind.f64 (zcv (z0u q00 (pF q05 0 (muN q00 1)) q02 (pF q07 0 (muN q02 1)) q01 (pF q06 0 (muN q01 1)) q03 (pF q0c 0 (muN q03 3)) q0g q0j q0i) (pF (z3k q00 (pF q05 0 (muN q00 1)) q02 (pF q07 0 (muN q02 1)) q01 (pF q06 0 (muN q01 1)) q03 (pF q0c 0 (muN q03 3)) q0g q0j q0i) 0 (muN (z0u q00 (pF q05 0 (muN q00 1)) q02 (pF q07 0 (muN q02 1)) q01 (pF q06 0 (muN q01 1)) q03 (pF q0c 0 (muN q03 3)) q0g q0j q0i) 1)) (z0t q00 (pF q05 0 (muN q00 1)) q02 (pF q07 0 (muN q02 1)) q01 (pF q06 0 (muN q01 1)) q03 (pF q0c 0 (muN q03 3)) q0g q0j q0i) (pF (z3m q00 (pF q05 0 (muN q00 1)) q02 (pF q07 0 (muN q02 1)) q01 (pF q06 0 (muN q01 1)) q03 (pF q0c 0 (muN q03 3)) q0g q0j q0i) 0 (muN (z0t q00 (pF q05 0 (muN q00 1)) q02 (pF q07 0 (muN q02 1)) q01 (pF q06 0 (muN q01 1)) q03 (pF q0c 0 (muN q03 3)) q0g q0j q0i) 1)) (z0s q00 (pF q05 0 (muN q00 1)) q02 (pF q07 0 (muN q02 1)) q01 (pF q06 0 (muN q01 1)) q03 (pF q0c 0 (muN q03 3)) q0g q0j q0i) (pF (z3i q00 (pF q05 0 (muN q00 1)) q02 (pF q07 0 (muN q02 1)) q01 (pF q06 0 (muN q01 1)) q03 (pF q0c 0 (muN q03 3)) q0g q0j q0i) 0 (muN (z0s q00 (pF q05 0 (muN q00 1)) q02 (pF q07 0 (muN q02 1)) q01 (pF q06 0 (muN q01 1)) q03 (pF q0c 0 (muN q03 3)) q0g q0j q0i) 1)) (z0v q00 (pF q05 0 (muN q00 1)) q02 (pF q07 0 (muN q02 1)) q01 (pF q06 0 (muN q01 1)) q03 (pF q0c 0 (muN q03 3)) q0g q0j q0i) (pF (z3o q00 (pF q05 0 (muN q00 1)) q02 (pF q07 0 (muN q02 1)) q01 (pF q06 0 (muN q01 1)) q03 (pF q0c 0 (muN q03 3)) q0g q0j q0i) 0 (muN (z0v q00 (pF q05 0 (muN q00 1)) q02 (pF q07 0 (muN q02 1)) q01 (pF q06 0 (muN q01 1)) q03 (pF q0c 0 (muN q03 3)) q0g q0j q0i) 3)) q0g q0j q0i x1 x2 x3)) (fcvV FloatKind.f32 FloatKind.f64 (zcs (z0u q00 (pF q05 0 (muN q00 1)) q02 (pF q07 0 (muN q02 1)) q01 (pF q06 0 (muN q01 1)) q03 (pF q0c 0 (muN q03 3)) q0g q0j q0i) (pF (z3k q00 (pF q05 0 (muN q00 1)) q02 (pF q07 0 (muN q02 1)) q01 (pF q06 0 (muN q01 1)) q03 (pF q0c 0 (muN q03 3)) q0g q0j q0i) 0 (muN (z0u q00 (pF q05 0 (muN q00 1)) q02 (pF q07 0 (muN q02 1)) q01 (pF q06 0 (muN q01 1)) q03 (pF q0c 0 (muN q03 3)) q0g q0j q0i) 1)) (z0t q00 (pF q05 0 (muN q00 1)) q02 (pF q07 0 (muN q02 1)) q01 (pF q06 0 (muN q01 1)) q03 (pF q0c 0 (muN q03 3)) q0g q0j q0i) (pF (z3m q00 (pF q05 0 (muN q00 1)) q02 (pF q07 0 (muN q02 1)) q01 (pF q06 0 (muN q01 1)) q03 (pF q0c 0 (muN q03 3)) q0g q0j q0i) 0 (muN (z0t q00 (pF q05 0 (muN q00 1)) q02 (pF q07 0 (muN q02 1)) q01 (pF q06 0 (muN q01 1)) q03 (pF q0c 0 (muN q03 3)) q0g q0j q0i) 1)) (z0s q00 (pF q05 0 (muN q00 1)) q02 (pF q07 0 (muN q02 1)) q01 (pF q06 0 (muN q01 1)) q03 (pF q0c 0 (muN q03 3)) q0g q0j q0i) (pF (z3i q00 (pF q05 0 (muN q00 1)) q02 (pF q07 0 (muN q02 1)) q01 (pF q06 0 (muN q01 1)) q03 (pF q0c 0 (muN q03 3)) q0g q0j q0i) 0 (muN (z0s q00 (pF q05 0 (muN q00 1)) q02 (pF q07 0 (muN q02 1)) q01 (pF q06 0 (muN q01 1)) q03 (pF q0c 0 (muN q03 3)) q0g q0j q0i) 1)) (z0v q00 (pF q05 0 (muN q00 1)) q02 (pF q07 0 (muN q02 1)) q01 (pF q06 0 (muN q01 1)) q03 (pF q0c 0 (muN q03 3)) q0g q0j q0i) (pF (z3o q00 (pF q05 0 (muN q00 1)) q02 (pF q07 0 (muN q02 1)) q01 (pF q06 0 (muN q01 1)) q03 (pF q0c 0 (muN q03 3)) q0g q0j q0i) 0 (muN (z0v q00 (pF q05 0 (muN q00 1)) q02 (pF q07 0 (muN q02 1)) q01 (pF q06 0 (muN q01 1)) q03 (pF q0c 0 (muN q03 3)) q0g q0j q0i) 3)) q0g q0j q0i x1 x2 x3))) (br (bnot (z6q (fcvV FloatKind.f32 FloatKind.f64 (zcv (z0u q00 (pF q05 0 (muN q00 1)) q02 (pF q07 0 (muN q02 1)) q01 (pF q06 0 (muN q01 1)) q03 (pF q0c 0 (muN q03 3)) q0g q0j q0i) (pF (z3k q00 (pF q05 0 (muN q00 1)) q02 (pF q07 0 (muN q02 1)) q01 (pF q06 0 (muN q01 1)) q03 (pF q0c 0 (muN q03 3)) q0g q0j q0i) 0 (muN (z0u q00 (pF q05 0 (muN q00 1)) q02 (pF q07 0 (muN q02 1)) q01 (pF q06 0 (muN q01 1)) q03 (pF q0c 0 (muN q03 3)) q0g q0j q0i) 1)) (z0t q00 (pF q05 0 (muN q00 1)) q02 (pF q07 0 (muN q02 1)) q01 (pF q06 0 (muN q01 1)) q03 (pF q0c 0 (muN q03 3)) q0g q0j q0i) (pF (z3m q00 (pF q05 0 (muN q00 1)) q02 (pF q07 0 (muN q02 1)) q01 (pF q06 0 (muN q01 1)) q03 (pF q0c 0 (muN q03 3)) q0g q0j q0i) 0 (muN (z0t q00 (pF q05 0 (muN q00 1)) q02 (pF q07 0 (muN q02 1)) q01 (pF q06 0 (muN q01 1)) q03 (pF q0c 0 (muN q03 3)) q0g q0j q0i) 1)) (z0s q00 (pF q05 0 (muN q00 1)) q02 (pF q07 0 (muN q02 1)) q01 (pF q06 0 (muN q01 1)) q03 (pF q0c 0 (muN q03 3)) q0g q0j q0i) (pF (z3i q00 (pF q05 0 (muN q00 1)) q02 (pF q07 0 (muN q02 1)) q01 (pF q06 0 (muN q01 1)) q03 (pF q0c 0 (muN q03 3)) q0g q0j q0i) 0 (muN (z0s q00 (pF q05 0 (muN q00 1)) q02 (pF q07 0 (muN q02 1)) q01 (pF q06 0 (muN q01 1)) q03 (pF q0c 0 (muN q03 3)) q0g q0j q0i) 1)) (z0v q00 (pF q05 0 (muN q00 1)) q02 (pF q07 0 (muN q02 1)) q01 (pF q06 0 (muN q01 1)) q03 (pF q0c 0 (muN q03 3)) q0g q0j q0i) (pF (z3o q00 (pF q05 0 (muN q00 1)) q02 (pF q07 0 (muN q02 1)) q01 (pF q06 0 (muN q01 1)) q03 (pF q0c 0 (muN q03 3)) q0g q0j q0i) 0 (muN (z0v q00 (pF q05 0 (muN q00 1)) q02 (pF q07 0 (muN q02 1)) q01 (pF q06 0 (muN q01 1)) q03 (pF q0c 0 (muN q03 3)) q0g q0j q0i) 3)) q0g q0j q0i x1 x2 x3)) (fcvV FloatKind.f32 FloatKind.f64 (zcs (z0u q00 (pF q05 0 (muN q00 1)) q02 (pF q07 0 (muN q02 1)) q01 (pF q06 0 (muN q01 1)) q03 (pF q0c 0 (muN q03 3)) q0g q0j q0i) (pF (z3k q00 (pF q05 0 (muN q00 1)) q02 (pF q07 0 (muN q02 1)) q01 (pF q06 0 (muN q01 1)) q03 (pF q0c 0 (muN q03 3)) q0g q0j q0i) 0 (muN (z0u q00 (pF q05 0 (muN q00 1)) q02 (pF q07 0 (muN q02 1)) q01 (pF q06 0 (muN q01 1)) q03 (pF q0c 0 (muN q03 3)) q0g q0j q0i) 1)) (z0t q00 (pF q05 0 (muN q00 1)) q02 (pF q07 0 (muN q02 1)) q01 (pF q06 0 (muN q01 1)) q03 (pF q0c 0 (muN q03 3)) q0g q0j q0i) (pF (z3m q00 (pF q05 0 (muN q00 1)) q02 (pF q07 0 (muN q02 1)) q01 (pF q06 0 (muN q01 1)) q03 (pF q0c 0 (muN q03 3)) q0g q0j q0i) 0 (muN (z0t q00 (pF q05 0 (muN q00 1)) q02 (pF q07 0 (muN q02 1)) q01 (pF q06 0 (muN q01 1)) q03 (pF q0c 0 (muN q03 3)) q0g q0j q0i) 1)) (z0s q00 (pF q05 0 (muN q00 1)) q02 (pF q07 0 (muN q02 1)) q01 (pF q06 0 (muN q01 1)) q03 (pF q0c 0 (muN q03 3)) q0g q0j q0i) (pF (z3i q00 (pF q05 0 (muN q00 1)) q02 (pF q07 0 (muN q02 1)) q01 (pF q06 0 (muN q01 1)) q03 (pF q0c 0 (muN q03 3)) q0g q0j q0i) 0 (muN (z0s q00 (pF q05 0 (muN q00 1)) q02 (pF q07 0 (muN q02 1)) q01 (pF q06 0 (muN q01 1)) q03 (pF q0c 0 (muN q03 3)) q0g q0j q0i) 1)) (z0v q00 (pF q05 0 (muN q00 1)) q02 (pF q07 0 (muN q02 1)) q01 (pF q06 0 (muN q01 1)) q03 (pF q0c 0 (muN q03 3)) q0g q0j q0i) (pF (z3o q00 (pF q05 0 (muN q00 1)) q02 (pF q07 0 (muN q02 1)) q01 (pF q06 0 (muN q01 1)) q03 (pF q0c 0 (muN q03 3)) q0g q0j q0i) 0 (muN (z0v q00 (pF q05 0 (muN q00 1)) q02 (pF q07 0 (muN q02 1)) q01 (pF q06 0 (muN q01 1)) q03 (pF q0c 0 (muN q03 3)) q0g q0j q0i) 3)) q0g q0j q0i x1 x2 x3)))) (k_ Bool.false) (br (bnot (beqB (zgk (z0u q00 (pF q05 0 (muN q00 1)) q02 (pF q07 0 (muN q02 1)) q01 (pF q06 0 (muN q01 1)) q03 (pF q0c 0 (muN q03 3)) q0g q0j q0i) (pF (z3k q00 (pF q05 0 (muN q00 1)) q02 (pF q07 0 (muN q02 1)) q01 (pF q06 0 (muN q01 1)) q03 (pF q0c 0 (muN q03 3)) q0g q0j q0i) 0 (muN (z0u q00 (pF q05 0 (muN q00 1)) q02 (pF q07 0 (muN q02 1)) q01 (pF q06 0 (muN q01 1)) q03 (pF q0c 0 (muN q03 3)) q0g q0j q0i) 1)) (z0t q00 (pF q05 0 (muN q00 1)) q02 (pF q07 0 (muN q02 1)) q01 (pF q06 0 (muN q01 1)) q03 (pF q0c 0 (muN q03 3)) q0g q0j q0i) (pF (z3m q00 (pF q05 0 (muN q00 1)) q02 (pF q07 0 (muN q02 1)) q01 (pF q06 0 (muN q01 1)) q03 (pF q0c 0 (muN q03 3)) q0g q0j q0i) 0 (muN (z0t q00 (pF q05 0 (muN q00 1)) q02 (pF q07 0 (muN q02 1)) q01 (pF q06 0 (muN q01 1)) q03 (pF q0c 0 (muN q03 3)) q0g q0j q0i) 1)) (z0s q00 (pF q05 0 (muN q00 1)) q02 (pF q07 0 (muN q02 1)) q01 (pF q06 0 (muN q01 1)) q03 (pF q0c 0 (muN q03 3)) q0g q0j q0i) (pF (z3i q00 (pF q05 0 (muN q00 1)) q02 (pF q07 0 (muN q02 1)) q01 (pF q06 0 (muN q01 1)) q03 (pF q0c 0 (muN q03 3)) q0g q0j q0i) 0 (muN (z0s q00 (pF q05 0 (muN q00 1)) q02 (pF q07 0 (muN q02 1)) q01 (pF q06 0 (muN q01 1)) q03 (pF q0c 0 (muN q03 3)) q0g q0j q0i) 1)) (z0v q00 (pF q05 0 (muN q00 1)) q02 (pF q07 0 (muN q02 1)) q01 (pF q06 0 (muN q01 1)) q03 (pF q0c 0 (muN q03 3)) q0g q0j q0i) (pF (z3o q00 (pF q05 0 (muN q00 1)) q02 (pF q07 0 (muN q02 1)) q01 (pF q06 0 (muN q01 1)) q03 (pF q0c 0 (muN q03 3)) q0g q0j q0i) 0 (muN (z0v q00 (pF q05 0 (muN q00 1)) q02 (pF q07 0 (muN q02 1)) q01 (pF q06 0 (muN q01 1)) q03 (pF q0c 0 (muN q03 3)) q0g q0j q0i) 3)) q0g q0j q0i x1 x2 x3) (zgo (z0u q00 (pF q05 0 (muN q00 1)) q02 (pF q07 0 (muN q02 1)) q01 (pF q06 0 (muN q01 1)) q03 (pF q0c 0 (muN q03 3)) q0g q0j q0i) (pF (z3k q00 (pF q05 0 (muN q00 1)) q02 (pF q07 0 (muN q02 1)) q01 (pF q06 0 (muN q01 1)) q03 (pF q0c 0 (muN q03 3)) q0g q0j q0i) 0 (muN (z0u q00 (pF q05 0 (muN q00 1)) q02 (pF q07 0 (muN q02 1)) q01 (pF q06 0 (muN q01 1)) q03 (pF q0c 0 (muN q03 3)) q0g q0j q0i) 1)) (z0t q00 (pF q05 0 (muN q00 1)) q02 (pF q07 0 (muN q02 1)) q01 (pF q06 0 (muN q01 1)) q03 (pF q0c 0 (muN q03 3)) q0g q0j q0i) (pF (z3m q00 (pF q05 0 (muN q00 1)) q02 (pF q07 0 (muN q02 1)) q01 (pF q06 0 (muN q01 1)) q03 (pF q0c 0 (muN q03 3)) q0g q0j q0i) 0 (muN (z0t q00 (pF q05 0 (muN q00 1)) q02 (pF q07 0 (muN q02 1)) q01 (pF q06 0 (muN q01 1)) q03 (pF q0c 0 (muN q03 3)) q0g q0j q0i) 1)) (z0s q00 (pF q05 0 (muN q00 1)) q02 (pF q07 0 (muN q02 1)) q01 (pF q06 0 (muN q01 1)) q03 (pF q0c 0 (muN q03 3)) q0g q0j q0i) (pF (z3i q00 (pF q05 0 (muN q00 1)) q02 (pF q07 0 (muN q02 1)) q01 (pF q06 0 (muN q01 1)) q03 (pF q0c 0 (muN q03 3)) q0g q0j q0i) 0 (muN (z0s q00 (pF q05 0 (muN q00 1)) q02 (pF q07 0 (muN q02 1)) q01 (pF q06 0 (muN q01 1)) q03 (pF q0c 0 (muN q03 3)) q0g q0j q0i) 1)) (z0v q00 (pF q05 0 (muN q00 1)) q02 (pF q07 0 (muN q02 1)) q01 (pF q06 0 (muN q01 1)) q03 (pF q0c 0 (muN q03 3)) q0g q0j q0i) (pF (z3o q00 (pF q05 0 (muN q00 1)) q02 (pF q07 0 (muN q02 1)) q01 (pF q06 0 (muN q01 1)) q03 (pF q0c 0 (muN q03 3)) q0g q0j q0i) 0 (muN (z0v q00 (pF q05 0 (muN q00 1)) q02 (pF q07 0 (muN q02 1)) q01 (pF q06 0 (muN q01 1)) q03 (pF q0c 0 (muN q03 3)) q0g q0j q0i) 3)) q0g q0j q0i x1 x2 x3))) (k_ Bool.false) (grd (zb1 q00 (pF q05 0 (muN q00 1)) q02 (pF q07 0 (muN q02 1)) q01 (pF q06 0 (muN q01 1)) q03 (pF q0c 0 (muN q03 3)) q0g q0j q0i) (grd (zg6 (z0u q00 (pF q05 0 (muN q00 1)) q02 (pF q07 0 (muN q02 1)) q01 (pF q06 0 (muN q01 1)) q03 (pF q0c 0 (muN q03 3)) q0g q0j q0i) (pF (z3k q00 (pF q05 0 (muN q00 1)) q02 (pF q07 0 (muN q02 1)) q01 (pF q06 0 (muN q01 1)) q03 (pF q0c 0 (muN q03 3)) q0g q0j q0i) 0 (muN (z0u q00 (pF q05 0 (muN q00 1)) q02 (pF q07 0 (muN q02 1)) q01 (pF q06 0 (muN q01 1)) q03 (pF q0c 0 (muN q03 3)) q0g q0j q0i) 1)) (z0t q00 (pF q05 0 (muN q00 1)) q02 (pF q07 0 (muN q02 1)) q01 (pF q06 0 (muN q01 1)) q03 (pF q0c 0 (muN q03 3)) q0g q0j q0i) (pF (z3m q00 (pF q05 0 (muN q00 1)) q02 (pF q07 0 (muN q02 1)) q01 (pF q06 0 (muN q01 1)) q03 (pF q0c 0 (muN q03 3)) q0g q0j q0i) 0 (muN (z0t q00 (pF q05 0 (muN q00 1)) q02 (pF q07 0 (muN q02 1)) q01 (pF q06 0 (muN q01 1)) q03 (pF q0c 0 (muN q03 3)) q0g q0j q0i) 1)) (z0s q00 (pF q05 0 (muN q00 1)) q02 (pF q07 0 (muN q02 1)) q01 (pF q06 0 (muN q01 1)) q03 (pF q0c 0 (muN q03 3)) q0g q0j q0i) (pF (z3i q00 (pF q05 0 (muN q00 1)) q02 (pF q07 0 (muN q02 1)) q01 (pF q06 0 (muN q01 1)) q03 (pF q0c 0 (muN q03 3)) q0g q0j q0i) 0 (muN (z0s q00 (pF q05 0 (muN q00 1)) q02 (pF q07 0 (muN q02 1)) q01 (pF q06 0 (muN q01 1)) q03 (pF q0c 0 (muN q03 3)) q0g q0j q0i) 1)) (z0v q00 (pF q05 0 (muN q00 1)) q02 (pF q07 0 (muN q02 1)) q01 (pF q06 0 (muN q01 1)) q03 (pF q0c 0 (muN q03 3)) q0g q0j q0i) (pF (z3o q00 (pF q05 0 (muN q00 1)) q02 (pF q07 0 (muN q02 1)) q01 (pF q06 0 (muN q01 1)) q03 (pF q0c 0 (muN q03 3)) q0g q0j q0i) 0 (muN (z0v q00 (pF q05 0 (muN q00 1)) q02 (pF q07 0 (muN q02 1)) q01 (pF q06 0 (muN q01 1)) q03 (pF q0c 0 (muN q03 3)) q0g q0j q0i) 3)) q0g q0j q0i (z0u q00 (pF q05 0 (muN q00 1)) q02 (pF q07 0 (muN q02 1)) q01 (pF q06 0 (muN q01 1)) q03 (pF q0c 0 (muN q03 3)) q0g q0j q0i) (pF (z3k q00 (pF q05 0 (muN q00 1)) q02 (pF q07 0 (muN q02 1)) q01 (pF q06 0 (muN q01 1)) q03 (pF q0c 0 (muN q03 3)) q0g q0j q0i) 0 (muN (z0u q00 (pF q05 0 (muN q00 1)) q02 (pF q07 0 (muN q02 1)) q01 (pF q06 0 (muN q01 1)) q03 (pF q0c 0 (muN q03 3)) q0g q0j q0i) 1)) (z0t q00 (pF q05 0 (muN q00 1)) q02 (pF q07 0 (muN q02 1)) q01 (pF q06 0 (muN q01 1)) q03 (pF q0c 0 (muN q03 3)) q0g q0j q0i) (pF (z3m q00 (pF q05 0 (muN q00 1)) q02 (pF q07 0 (muN q02 1)) q01 (pF q06 0 (muN q01 1)) q03 (pF q0c 0 (muN q03 3)) q0g q0j q0i) 0 (muN (z0t q00 (pF q05 0 (muN q00 1)) q02 (pF q07 0 (muN q02 1)) q01 (pF q06 0 (muN q01 1)) q03 (pF q0c 0 (muN q03 3)) q0g q0j q0i) 1)) (z0s q00 (pF q05 0 (muN q00 1)) q02 (pF q07 0 (muN q02 1)) q01 (pF q06 0 (muN q01 1)) q03 (pF q0c 0 (muN q03 3)) q0g q0j q0i) (pF (z3i q00 (pF q05 0 (muN q00 1)) q02 (pF q07 0 (muN q02 1)) q01 (pF q06 0 (muN q01 1)) q03 (pF q0c 0 (muN q03 3)) q0g q0j q0i) 0 (muN (z0s q00 (pF q05 0 (muN q00 1)) q02 (pF q07 0 (muN q02 1)) q01 (pF q06 0 (muN q01 1)) q03 (pF q0c 0 (muN q03 3)) q0g q0j q0i) 1)) (z0v q00 (pF q05 0 (muN q00 1)) q02 (pF q07 0 (muN q02 1)) q01 (pF q06 0 (muN q01 1)) q03 (pF q0c 0 (muN q03 3)) q0g q0j q0i) (pF (z3o q00 (pF q05 0 (muN q00 1)) q02 (pF q07 0 (muN q02 1)) q01 (pF q06 0 (muN q01 1)) q03 (pF q0c 0 (muN q03 3)) q0g q0j q0i) 0 (muN (z0v q00 (pF q05 0 (muN q00 1)) q02 (pF q07 0 (muN q02 1)) q01 (pF q06 0 (muN q01 1)) q03 (pF q0c 0 (muN q03 3)) q0g q0j q0i) 3)) q0g q0j q0i) (br (bnot (ze1 (z0u q00 (pF q05 0 (muN q00 1)) q02 (pF q07 0 (muN q02 1)) q01 (pF q06 0 (muN q01 1)) q03 (pF q0c 0 (muN q03 3)) q0g q0j q0i) (pF (z3k q00 (pF q05 0 (muN q00 1)) q02 (pF q07 0 (muN q02 1)) q01 (pF q06 0 (muN q01 1)) q03 (pF q0c 0 (muN q03 3)) q0g q0j q0i) 0 (muN (z0u q00 (pF q05 0 (muN q00 1)) q02 (pF q07 0 (muN q02 1)) q01 (pF q06 0 (muN q01 1)) q03 (pF q0c 0 (muN q03 3)) q0g q0j q0i) 1)) (z0t q00 (pF q05 0 (muN q00 1)) q02 (pF q07 0 (muN q02 1)) q01 (pF q06 0 (muN q01 1)) q03 (pF q0c 0 (muN q03 3)) q0g q0j q0i) (pF (z3m q00 (pF q05 0 (muN q00 1)) q02 (pF q07 0 (muN q02 1)) q01 (pF q06 0 (muN q01 1)) q03 (pF q0c 0 (muN q03 3)) q0g q0j q0i) 0 (muN (z0t q00 (pF q05 0 (muN q00 1)) q02 (pF q07 0 (muN q02 1)) q01 (pF q06 0 (muN q01 1)) q03 (pF q0c 0 (muN q03 3)) q0g q0j q0i) 1)) (z0s q00 (pF q05 0 (muN q00 1)) q02 (pF q07 0 (muN q02 1)) q01 (pF q06 0 (muN q01 1)) q03 (pF q0c 0 (muN q03 3)) q0g q0j q0i) (pF (z3i q00 (pF q05 0 (muN q00 1)) q02 (pF q07 0 (muN q02 1)) q01 (pF q06 0 (muN q01 1)) q03 (pF q0c 0 (muN q03 3)) q0g q0j q0i) 0 (muN (z0s q00 (pF q05 0 (muN q00 1)) q02 (pF q07 0 (muN q02 1)) q01 (pF q06 0 (muN q01 1)) q03 (pF q0c 0 (muN q03 3)) q0g q0j q0i) 1)) (z0v q00 (pF q05 0 (muN q00 1)) q02 (pF q07 0 (muN q02 1)) q01 (pF q06 0 (muN q01 1)) q03 (pF q0c 0 (muN q03 3)) q0g q0j q0i) (pF (z3o q00 (pF q05 0 (muN q00 1)) q02 (pF q07 0 (muN q02 1)) q01 (pF q06 0 (muN q01 1)) q03 (pF q0c 0 (muN q03 3)) q0g q0j q0i) 0 (muN (z0v q00 (pF q05 0 (muN q00 1)) q02 (pF q07 0 (muN q02 1)) q01 (pF q06 0 (muN q01 1)) q03 (pF q0c 0 (muN q03 3)) q0g q0j q0i) 3)) q0g q0j q0i (z0u q00 (pF q05 0 (muN q00 1)) q02 (pF q07 0 (muN q02 1)) q01 (pF q06 0 (muN q01 1)) q03 (pF q0c 0 (muN q03 3)) q0g q0j q0i) (pF (z3k q00 (pF q05 0 (muN q00 1)) q02 (pF q07 0 (muN q02 1)) q01 (pF q06 0 (muN q01 1)) q03 (pF q0c 0 (muN q03 3)) q0g q0j q0i) 0 (muN (z0u q00 (pF q05 0 (muN q00 1)) q02 (pF q07 0 (muN q02 1)) q01 (pF q06 0 (muN q01 1)) q03 (pF q0c 0 (muN q03 3)) q0g q0j q0i) 1)) (z0t q00 (pF q05 0 (muN q00 1)) q02 (pF q07 0 (muN q02 1)) q01 (pF q06 0 (muN q01 1)) q03 (pF q0c 0 (muN q03 3)) q0g q0j q0i) (pF (z3m q00 (pF q05 0 (muN q00 1)) q02 (pF q07 0 (muN q02 1)) q01 (pF q06 0 (muN q01 1)) q03 (pF q0c 0 (muN q03 3)) q0g q0j q0i) 0 (muN (z0t q00 (pF q05 0 (muN q00 1)) q02 (pF q07 0 (muN q02 1)) q01 (pF q06 0 (muN q01 1)) q03 (pF q0c 0 (muN q03 3)) q0g q0j q0i) 1)) (z0s q00 (pF q05 0 (muN q00 1)) q02 (pF q07 0 (muN q02 1)) q01 (pF q06 0 (muN q01 1)) q03 (pF q0c 0 (muN q03 3)) q0g q0j q0i) (pF (z3i q00 (pF q05 0 (muN q00 1)) q02 (pF q07 0 (muN q02 1)) q01 (pF q06 0 (muN q01 1)) q03 (pF q0c 0 (muN q03 3)) q0g q0j q0i) 0 (muN (z0s q00 (pF q05 0 (muN q00 1)) q02 (pF q07 0 (muN q02 1)) q01 (pF q06 0 (muN q01 1)) q03 (pF q0c 0 (muN q03 3)) q0g q0j q0i) 1)) (z0v q00 (pF q05 0 (muN q00 1)) q02 (pF q07 0 (muN q02 1)) q01 (pF q06 0 (muN q01 1)) q03 (pF q0c 0 (muN q03 3)) q0g q0j q0i) (pF (z3o q00 (pF q05 0 (muN q00 1)) q02 (pF q07 0 (muN q02 1)) q01 (pF q06 0 (muN q01 1)) q03 (pF q0c 0 (muN q03 3)) q0g q0j q0i) 0 (muN (z0v q00 (pF q05 0 (muN q00 1)) q02 (pF q07 0 (muN q02 1)) q01 (pF q06 0 (muN q01 1)) q03 (pF q0c 0 (muN q03 3)) q0g q0j q0i) 3)) q0g q0j q0i)) (k_ Bool.false) (k_ Bool.true)))))))))))))))
noncomputable def z85 (q00 : Nat) (q05 : List Nat) (q02 : Nat) (q07 : List Nat) (q01 : Nat) (q06 : List Nat) (q03 : Nat) (q0c : List Nat) (q0g : Int) (q0j : Nat) (q0i : Nat) (x1 : Int) (x2 : Nat) (x3 : Nat) : Option (Bool) := z87 q00 q05 q02 q07 q01 q06 q03 q0c q0g q0j q0i x1 x2 x3 (fun c0_ => some c0_)
theorem zj2 {R R' : Type} (o : Option R → Option R') (h0 : o none = none) (q00 : Nat) (q05 : List Nat) (q02 : Nat) (q07 : List Nat) (q01 : Nat) (q06 : List Nat) (q03 : Nat) (q0c : List Nat) (q0g : Int) (q0j : Nat) (q0i : Nat) (x1 : Int) (x2 : Nat) (x3 : Nat) (k_ : Bool → Option R) : z87 q00 q05 q02 q07 q01 q06 q03 q0c q0g q0j q0i x1 x2 x3 (fun c0_ => o (k_ c0_)) = o (z87 q00 q05 q02 q07 q01 q06 q03 q0c q0g q0j q0i x1 x2 x3 k_) := by
  unfold z87
  repeat (first | refine grd_out h0 ?_ | refine br_out ?_ ?_ | rfl | exact h0.symm)
noncomputable def zep (q00 : Nat) (q05 : List Nat) (q02 : Nat) (q07 : List Nat) (q01 : Nat) (q06 : List Nat) (q03 : Nat) (q0c : List Nat) (q0g : Int) (q0j : Nat) (q0i : Nat) (x1 : Int) (x2 : Nat) (x3 : Nat) : Bool := (z85 q00 q05 q02 q07 q01 q06 q03 q0c q0g q0j q0i x1 x2 x3).isSome
noncomputable def zda (q00 : Nat) (q05 : List Nat) (q02 : Nat) (q07 : List Nat) (q01 : Nat) (q06 : List Nat) (q03 : Nat) (q0c : List Nat) (q0g : Int) (q0j : Nat) (q0i : Nat) (x1 : Int) (x2 : Nat) (x3 : Nat) : Bool := ((z85 q00 q05 q02 q07 q01 q06 q03 q0c q0g q0j q0i x1 x2 x3).getD default)
theorem zkb {q00 : Nat} {q05 : List Nat} {q02 : Nat} {q07 : List Nat} {q01 : Nat} {q06 : List Nat} {q03 : Nat} {q0c : List Nat} {q0g : Int} {q0j : Nat} {q0i : Nat} {x1 : Int} {x2 : Nat} {x3 : Nat} {r : Bool} (h : z85 q00 q05 q02 q07 q01 q06 q03 q0c q0g q0j q0i x1 x2 x3 = some r) : zep q00 q05 q02 q07 q01 q06 q03 q0c q0g q0j q0i x1 x2 x3 = true ∧ zda q00 q05 q02 q07 q01 q06 q03 q0c q0g q0j q0i x1 x2 x3 = r := by
  unfold zep zda
  rw [h]
  exact ⟨rfl, rfl⟩
end Go.Rf
